/- part 0 -/
import Derived.Calls
import Derived.Orders
import Derived.KernelRfl
import Derived.Laws.Append
import Derived.Laws.AppendOwn
import Derived.Laws.MakeOwn
import Derived.Laws.IdiomCopy
import Derived.Laws.StructEq
import Derived.Laws.CopyRow
import Derived.ChangeKeysEq
set_option linter.unusedVariables false
namespace Go.Ab
inductive Ty where
 |int (k:IntKind)|bool|sl (t:Ty)|pair (a b:Ty)
abbrev Ty.den:Ty→Type
 |.int _=>Int|.bool=>Bool|.sl t=>List t.den|.pair a b=>a.den×b.den
def Ty.size:Ty→Nat
 |.int _=>1|.bool=>1|.sl _=>1|.pair a b=>a.size+b.size
def Ty.flat:Ty→Bool
 |.int _|.bool=>true|.sl _=>false|.pair a b=>a.flat&&b.flat
def Ty.dflt:(t:Ty)→t.den
 |.int _=>(0:Int)|.bool=>false|.sl t=>([]:List t.den)|.pair a b=>(a.dflt,b.dflt)
def jW:IntKind→IntKind→Bool
 |.i8,.i8|.i16,.i16|.i32,.i32|.i64,.i64|.u8,.u8|.u16,.u16|.u32,.u32|.u64,.u64=>true
 |_,_=>false
theorem oW {a b}(h:jW a b=true):a=b:=by cases a<;>cases b<;>first|rfl|cases h
def nz:Ty→Ty→Bool
 |.int j,.int k=>jW j k
 |.bool,.bool=>true
 |.sl a,.sl b=>nz a b
 |.pair a b,.pair c d=>nz a c&&nz b d
 |_,_=>false
theorem D5:∀{a b},nz a b=true→a=b
 |.int j,.int k,h=>congrArg Ty.int (oW h)
 |.bool,.bool,_=>rfl
 |.sl a,.sl b,h=>congrArg Ty.sl (D5 (a:=a) (b:=b) h)
 |.pair a b,.pair c d,h=>by
  simp[nz] at h;rw[D5 h.1,D5 h.2]
def fx (a b:Ty)(xs:List a.den):Option (List b.den):=
 if h:nz a b=true then some (D5 h▸xs) else none
inductive zV where
 |undef
 |int (k:IntKind) (n:Int)
 |bool (b:Bool)
 |fsl (sh:Bool) (t:Ty) (xs:List t.den)
 |nfl (sh:Bool) (t:Ty) (xs:List t.den)
 |nsl
 |osl (id:Nat) (r:Option (Nat×Nat))
 |bsl (id off len:Nat)
 |ptr (id off:Nat)
 |eptr (id i off:Nat)
 |fptr (sh:Bool) (t:Ty) (x:t.den) (off:Nat)
 |mrow (id i ver:Nat)
 |mptr (id i:Nat)
 |meptr (id i j ver:Nat)
 |nilp|nilf|nilm
 |fn (f:Nat) (cap:List Nat)
 |map (id:Nat)
 |str (xs:List Int)
inductive zT where
 |undef
 |skp
 |c (v:zV)
 |agg (vs:List zV)
 |tup (xs:List (Bool×List zV))
inductive Obj where
 |box (own:Bool) (cells:List zV)
 |robox (cells:List zV)
 |arr (own:Bool) (t:Ty) (xs:List t.den)
 |mat (ver:Nat) (xs:List (List Int))
 |pmat (ver:Nat) (xs:List (List Int)) (n:Nat)
 |imap (cL:List (Int×Bool))
 |gone
abbrev Hp:=Nat→Option Obj
abbrev yV:=List (Nat×Obj)
def qX (h:Hp)(id:Nat)(o:Obj):Hp:=fun n=>bif Nat.beq n id then some o else h n
def qF (h:Hp):yV→Hp
 |[]=>h
 |(id,o)::u=>qF (qX h id o) u
structure St where
 t:Nat→zT
 h:Hp
def wP (t:Nat→zT)(d:Nat)(v:zT):Nat→zT:=fun n=>bif Nat.beq n d then v else t n
def gA (t:Nat→zT)(d:Option Nat)(v:zT):Nat→zT:=match d with
 |some d=>wP t d v
 |none=>t
inductive yL where
 |alts (l:List (Bool×zT×yV))
 |call (X:Type) (x:Option X) (f:X→zT×yV)
 |call2 (X Y:Type) (x:Option (X⊕Y)) (f:X→zT×yV) (g:Y→zT×yV)
def yL.stuck:yL:=.alts []
def yL.one (v:zT):yL:=.alts [(true,v,[])]
def yL.when (c:Bool)(v:zT):yL:=.alts [(c,v,[])]
def Nc {R:Type}(K:zT→yV→Option R):List (Bool×zT×yV)→Option R
 |[]=>none
 |(c,v,u)::l=>bif c then K v u else Nc K l
def yL.elim {R}(s:yL)(K:zT→yV→Option R):Option R:=match s with
 |.alts l=>Nc K l
 |.call _ x f=>x.bind fun r=>K (f r).1 (f r).2
 |.call2 _ _ x f g=>x.bind fun r=>match r with
  |.inl a=>K (f a).1 (f a).2
  |.inr b=>K (g b).1 (g b).2
def uf:Value→zV
 |.int k n=>.int k n
 |.bool b=>.bool b
 |.slice none 0 0=>.nsl
 |.pointer none=>.nilp
 |.nilFunc=>.nilf
 |.map none=>.nilm
 |_=>.undef
def ug:Value→Bool
 |.agg _|.tuple _=>false
 |_=>true
def Nd:Value→zT
 |.agg cs=>bif cs.toList.all ug then .agg (cs.toList.map uf) else .undef
 |.tuple _=>.undef
 |v=>.c (uf v)
def St.ev (st:St):Operand→zT
 |.tmp t=>st.t t
 |.const v=>Nd v
 |.global _=>.undef
 |.func f=>.c (.fn f [])
def cellsOf (sh:Bool):(t:Ty)→t.den→List zV
 |.int k,n=>[.int k n]
 |.bool,b=>[.bool b]
 |.sl t,xs=>[.fsl sh t xs]
 |.pair a b,p=>cellsOf sh a p.1++cellsOf sh b p.2
def Nf (k:IntKind):Nat→zV→Option Int
 |0,.int j n=>bif jW j k then some n else none
 |_,_=>none
def Ng:Nat→zV→Option Bool
 |0,.bool b=>some b
 |_,_=>none
def Nh (t:Ty):Nat→zV→Option (List t.den)
 |0,.fsl true s xs=>fx s t xs
 |0,.nsl=>some []
 |_,_=>none
def oX:(t:Ty)→t.den→Nat→zV→Option t.den
 |.int k,_,off,v=>Nf k off v
 |.bool,_,off,v=>Ng off v
 |.sl t,_,off,v=>Nh t off v
 |.pair a b,p,off,v=>bif Nat.blt off a.size then(match oX a p.1 off v with|some x=>some (x,p.2)|none=>none)
   else(match oX b p.2 (off-a.size) v with|some y=>some (p.1,y)|none=>none)
def oY (t:Ty):t.den→Nat→List zV→Option t.den
 |x,_,[]=>some x
 |x,off,v::vs=>match oX t x off v with
  |some y=>oY t y (off+1) vs
  |none=>none
def D6 (t:Ty)(vs:List zV):Option t.den:=bif Nat.beq vs.length t.size then oY t t.dflt 0 vs else none
def qW {α:Type}(xs:List α)(lo n:Nat):List α:=(xs.drop lo).take n
def gC {α}(xs:List α):Option (Nat×Nat)→List α
 |none=>xs
 |some (lo,n)=>qW xs lo n
def jN:List (Option Ty)→Option Ty
 |[]=>none
 |[t]=>t
 |a::l=>match a,jN l with
  |some x,some y=>some (.pair x y)
  |_,_=>none
def Iq (P:Program):Nat→TypeId→Option Ty
 |0,_=>none
 |d+1,t=>match P.underlying t with
  |some (.int k)=>some (.int k)
  |some .bool=>some .bool
  |some (.slice e)=>(Iq P d e).map .sl
  |some (.struct fs)=>jN (fs.toList.map fun f=>Iq P d f.type)
  |some (.array n e)=>jN (List.replicate n (Iq P d e))
  |_=>none
def fy:Ty→List Value
 |.int k=>[.int k 0]
 |.bool=>[.bool false]
 |.sl _=>[.slice none 0 0]
 |.pair a b=>fy a++fy b
def Ni:Value→Value→Bool
 |.int j a,.int k b=>jW j k&&decide (a=b)
 |.bool a,.bool b=>bif a then b else !b
 |.slice none 0 0,.slice none 0 0=>true
 |_,_=>false
def D7:List Value→List Value→Bool
 |[],[]=>true
 |a::l,b::m=>Ni a b&&D7 l m
 |_,_=>false
def gX (P:Program)(e:TypeId):Option Ty:=match Iq P 8 e,P.info? e with
 |some t,some i=>match i.zero with
  |some z=>bif Nat.beq i.size t.size&&D7 z.cells.toList (fy t) then some t else none
  |none=>none
 |_,_=>none
def wW (P:Program)(t:TypeId):Option Bool:=match P.underlying t with
 |some (.struct _)|some (.array _ _)=>some true
 |some _=>some false
 |none=>none
def zeroCells (P:Program)(t:TypeId):Option (List zV):=match P.info? t with
 |some i=>match i.zero with
  |some v=>bif Nat.beq v.cells.size i.size&&v.cells.toList.all ug then some (v.cells.toList.map uf) else none
  |none=>none
 |none=>none
def nA (agg:Option Bool)(vs:List zV):Option zT:=match agg with
 |some true=>some (.agg vs)
 |some false=>match vs with
  |[v]=>some (.c v)
  |_=>none
 |none=>none
def yL.ofO:Option zT→yL
 |some v=>.one v
 |none=>.stuck
def kk (cells:List zV)(off n:Nat):Option (List zV):=
 bif Nat.ble (off+n) cells.length then some ((cells.drop off).take n) else none
def uh (cells:List zV)(off:Nat):List zV→Option (List zV)
 |[]=>some cells
 |v::vs=>bif Nat.blt off cells.length then uh (cells.set off v) (off+1) vs else none
def lK:zT→Option (List zV)
 |.c v=>some [v]
 |.agg vs=>some vs
 |_=>none
def oZ (f:(n:Nat)→BitVec n→BitVec n→BitVec n)(k:IntKind)(x y:Int):Int:=
 k.wrap (f k.bits (BitVec.ofInt k.bits x) (BitVec.ofInt k.bits y)).toNat
def Yg (op:BinOp)(k:IntKind)(x y:Int):yL:=match op with
 |.add=>.one (.c (.int k (k.wrap (x+y))))
 |.sub=>.one (.c (.int k (k.wrap (x-y))))
 |.mul=>.one (.c (.int k (k.wrap (x*y))))
 |.quo=>.when (!decide (y=0)) (.c (.int k (k.wrap (x.tdiv y))))
 |.rem=>.when (!decide (y=0)) (.c (.int k (x.tmod y)))
 |.and=>.one (.c (.int k (oZ (fun _ a b=>a&&&b) k x y)))
 |.or=>.one (.c (.int k (oZ (fun _ a b=>a|||b) k x y)))
 |.xor=>.one (.c (.int k (oZ (fun _ a b=>a^^^b) k x y)))
 |.andNot=>.one (.c (.int k (oZ (fun _ a b=>a&&&~~~b) k x y)))
 |.eql=>.one (.c (.bool (decide (x=y))))
 |.neq=>.one (.c (.bool (!decide (x=y))))
 |.lss=>.one (.c (.bool (decide (x<y))))
 |.leq=>.one (.c (.bool (decide (x≤y))))
 |.gtr=>.one (.c (.bool (decide (x>y))))
 |.geq=>.one (.c (.bool (decide (x≥y))))
 |_=>.stuck
def Yh (op:BinOp)(k:IntKind)(x y:Int):yL:=match op with
 |.shl=>.when (!decide (y<0)) (.c (.int k (k.wrap (x*2^(min y.toNat k.bits)))))
 |.shr=>.when (!decide (y<0)) (.c (.int k (x.fdiv (2^(min y.toNat k.bits)))))
 |_=>.stuck
def gY (a b:Bool):Bool:=bif a then b else !b
def jX:List zV→List zV→Option Bool
 |[],[]=>some true
 |[.int j a],[.int k b]=>bif jW j k then some (decide (a=b)) else none
 |.int j a::l,.int k b::m=>bif jW j k then(match jX l m with|some r=>some (decide (a=b)&&r)|none=>none) else none
 |[.bool a],[.bool b]=>some (gY a b)
 |.bool a::l,.bool b::m=>match jX l m with|some r=>some (gY a b&&r)|none=>none
 |_,_=>none
def Ir (P:Program)(rec:TypeId→Option (List (Option IntKind))):Nat→List Field→Option (List (Option IntKind))
 |_,[]=>some []
 | i, f :: l => bif Nat.beq f.offset i && !(f.name == "_") then (match rec f.type,Ir P rec (i+P.cellsOf f.type) l with
  |some a,some r=>bif Nat.beq a.length (P.cellsOf f.type)&&Nat.blt 0 a.length then some (a++r) else none
  |_,_=>none) else none
def ui {α:Type}:Nat→List α→List α
 |0,_=>[]
 |n+1,l=>l++ui n l
def xW (P:Program):Nat→TypeId→Option (List (Option IntKind))
 |0,_=>none
 |d+1,t=>match P.underlying t with
  |some (.int k)=>some [some k]
  |some .bool=>some [none]
  |some (.struct fs)=>Ir P (xW P d) 0 fs.toList
  |some (.array n e)=>match xW P d e with
   |some a=>bif Nat.beq a.length (P.cellsOf e)&&Nat.blt 0 a.length then some (ui n a) else none
   |none=>none
  |_=>none
def Yi (P:Program)(t:TypeId):Option (List (Option IntKind)):=match P.underlying t with
 |some (.struct _)=>xW P 8 t
 |_=>none
def eY:List (Option IntKind)→List zV→Bool
 |[],[]=>true
 |some k::l,.int j _::cs=>jW j k&&eY l cs
 |none::l,.bool _::cs=>eY l cs
 |_,_=>false
def Is (P:Program)(t:TypeId)(a b:List zV):Option Bool:=match Yi P t with
 |some ks=>bif eY ks a&&eY ks b then jX a b else none
 |none=>none
def Nj (d:TypeDesc)(y:Operand)(x:zV):Option Bool:=match d,y,x with
 |.slice _,.const (.slice none 0 0),.nsl=>some true
 |.slice _,.const (.slice none 0 0),.nfl _ _ _=>some false
 |.pointer _,.const (.pointer none),.nilp=>some true
 |.pointer _,.const (.pointer none),.ptr _ _|.pointer _,.const (.pointer none),.eptr _ _ _|.pointer _,.const (.pointer none),.fptr _ _ _ _=>some false
 |.func _ _ _,.const .nilFunc,.nilf=>some true
 |.func _ _ _,.const .nilFunc,.fn _ _=>some false
 |.map _ _,.const (.map none),.nilm=>some true
 |.map _ _,.const (.map none),.map _=>some false
 |_,_,_=>none
def nB:BinOp→Bool→Bool
 |.eql,b=>b
 |_,b=> !b
def Nk:BinOp→Bool
 |.eql|.neq=>true
 |_=>false
def Nl:Operand→Bool
 |.const (.slice none 0 0)|.const (.pointer none)|.const .nilFunc|.const (.map none)=>true
 |_=>false
def lL (xs:List Int):List UInt8:=xs.map fun n=>UInt8.ofNat n.toNat
def Iu (xs ys:List Int):Bool:=lL xs==lL ys
def Iv (P:Program)(t:TypeId):Bool:=match P.underlying t with
 |some .bool=>true
 |_=>false
def Nm (P:Program)(eqT:TypeId→Bool)(op:BinOp)(fz:TypeId)(ox oy:Operand)(x y:zT):yL:=match op,x,y with
 |.shl,.c (.int k a),.c (.int _ b)|.shr,.c (.int k a),.c (.int _ b)=>Yh op k a b
 |_,.c (.int k a),.c (.int j b)=>bif jW k j then Yg op k a b else .stuck
 |.eql,.c (.bool a),.c (.bool b)=>bif Iv P fz then .one (.c (.bool (gY a b))) else .stuck
 |.neq,.c (.bool a),.c (.bool b)=>bif Iv P fz then .one (.c (.bool (!gY a b))) else .stuck
 |.eql,.c (.str a),.c (.str b)=>.one (.c (.bool (Iu a b)))
 |.neq,.c (.str a),.c (.str b)=>.one (.c (.bool (!Iu a b)))
 |.eql,.agg a,.agg b=>bif eqT fz then(match Is P fz a b with|some r=>.one (.c (.bool r))|none=>.stuck) else .stuck
 |.neq,.agg a,.agg b=>bif eqT fz then(match Is P fz a b with|some r=>.one (.c (.bool (!r)))|none=>.stuck) else .stuck
 |_,_,_=>.stuck
def Nn (op:UnOp)(x:zT):yL:=match op,x with
 |.not,.c (.bool b)=>.one (.c (.bool (!b)))
 |.neg,.c (.int k n)=>.one (.c (.int k (k.wrap (0-n))))
 |_,_=>.stuck
def gZ (h:Hp):zV→Option ((t:Ty)×List t.den)
 |.fsl _ t xs=>some ⟨t,xs⟩
 |.osl id r=>match h id with
  |some (.arr _ t xs)=>some ⟨t,gC xs r⟩
  |some (.mat _ xs)=>match r with
   |none=>some ⟨.sl (.int .i64),xs⟩
   |some _=>none
  |_=>none
 |.mrow id i ver=>match h id with
  |some (.mat v xs)=>bif Nat.beq v ver then some ⟨.int .i64,xs.getD i []⟩ else none
  |_=>none
 |_=>none
def xX (h:Hp):zV→Option (List Int)
 |.nsl=>some []
 |c=>match gZ h c with
  |some ⟨.int .u8,xs⟩=>some xs
  |_=>none
def xY (h:Hp)(v:zV):Option Nat:=match v with
 |.nsl=>some 0
 |.bsl _ _ n=>some n
 |v=>match gZ h v with
  |some ⟨_,xs⟩=>some xs.length
  |none=>none
def xZ (h:Hp):zV→Option Nat
 |.fsl _ _ xs=>some xs.length
 |.osl id none=>match h id with
  |some (.arr _ _ xs)=>some xs.length
  |_=>none
 |_=>none
def lM (h:Hp):zV→Option (zV×yV)
 |.osl id r=>match h id with
  |some (.arr _ t xs)=>some (.fsl true t (gC xs r),[(id,.arr false t xs)])
  |some (.mat _ xs)=>match r with
   |none=>some (.fsl true (.sl (.int .i64)) xs,[(id,.arr false (.sl (.int .i64)) xs)])
   |some _=>none
  |_=>none
 |.mrow _ _ _=>none
 |v=>some (v,[])
def kT (h:Hp):List zV→Option (List zV×yV)
 |[]=>some ([],[])
 |v::vs=>match lM h v,kT h vs with
  |some (v,u),some (vs,us)=>some (v::vs,u++us)
  |_,_=>none
def zC (i:Int)(n:Nat):Bool:=decide (0≤i)&&decide (i<(n:Int))
def ya (i:Int)(mk:Nat→zV):Nat→Nat→List (Bool×zT×yV)
 |_,0=>[]
 |j,n+1=>(decide (i=(j:Int)),.c (mk j),[])::ya i mk (j+1) n
def D8 (P:Program)(t:TypeId)(cells:List zV)(off:Nat):yL:=.ofO ((kk cells off (P.cellsOf t)).bind (nA (wW P t)))
def yc (P:Program)(h:Hp)(t:TypeId)(a:zT):yL:=
 match a with
 |.c (.ptr id off)=>match h id with
  |some (.box _ cells)=>D8 P t cells off
  |some (.robox cells)=>D8 P t cells off
  |_=>.stuck
 |.c (.fptr sh ty x off)=>D8 P t (cellsOf sh ty x) off
 |.c (.eptr id i off)=>match h id with
  |some (.arr _ ty xs)=>D8 P t (cellsOf true ty (xs.getD i ty.dflt)) off
  |_=>.stuck
 |.c (.mptr id i)=>match h id with
  |some (.mat ver _)=>match wW P t with|some false=>.one (.c (.mrow id i ver))|_=>.stuck
  |_=>.stuck
 |.c (.meptr id i j ver)=>match h id with
  |some (.mat v xs)=>bif Nat.beq v ver then(match wW P t with|some false=>.one (.c (.int .i64 ((xs.getD i []).getD j 0)))|_=>.stuck) else .stuck
  |_=>.stuck
 |_=>.stuck
def yd (P:Program)(h:Hp)(t:TypeId)(a v:zT):yL:=
 match lK v with
 |none=>.stuck
 | some vs => bif Nat.beq vs.length (P.cellsOf t) && Nat.blt 0 vs.length then (match a with
  |.c (.ptr id off)=>match h id with
   |some (.box true cells)=>match uh cells off vs with
    |some cells=>.alts [(true,.undef,[(id,.box true cells)])]
    |none=>.stuck
   |_=>.stuck
  |.c (.eptr id i off)=>match h id,kT h vs with
   |some (.arr true ty xs),some (vs,u)=>match oY ty (xs.getD i ty.dflt) off vs with
    |some x=>bif u.any (fun p=>Nat.beq p.1 id) then .stuck else .alts [(true,.undef,u++[(id,.arr true ty (xs.set i x))])]
    |none=>.stuck
   |_,_=>.stuck
  |.c (.mptr id i)=>match h id,v with
   |some (.mat ver xs),.c (.osl jd none)=>match h jd with
    |some (.arr true (.int .i64) ys)=>.alts [(true,.undef,[(jd,.gone),(id,.mat (ver+1) (xs.set i ys))])]
    |_=>.stuck
   |some (.pmat ver xs n),.c (.osl jd none)=>match h jd with
    |some (.arr true (.int .i64) ys)=>.alts [(Nat.beq i xs.length,.undef,[(jd,.gone),(id,.pmat (ver+1) (xs++[ys]) n)])]
    |_=>.stuck
   |_,_=>.stuck
  |.c (.meptr id i j ver)=>match h id,v with
   |some (.mat v xs),.c (.int .i64 n)=>bif Nat.beq v ver then .alts [(true,.undef,[(id,.mat v (xs.set i ((xs.getD i []).set j n)))])] else .stuck
   |_,_=>.stuck
  |_=>.stuck) else .stuck
def No (P:Program)(s:TypeId)(a:zT)(f:Nat):yL:=match P.underlying s with
 |some (.struct fs)=>match fs[f]? with
  | some fd => bif Nat.beq (P.cellsOf fd.type) 0 then .stuck else (match a with
   |.c (.ptr id off)=>.one (.c (.ptr id (off+fd.offset)))
   |.c (.eptr id i off)=>.one (.c (.eptr id i (off+fd.offset)))
   |.c (.fptr sh t x off)=>.one (.c (.fptr sh t x (off+fd.offset)))
   |_=>.stuck)
  |none=>.stuck
 |_=>.stuck
def ye (P:Program)(h:Hp)(t:TypeId)(x i:zT):yL:=match P.underlying t,x,i with
 |some (.slice e),.c v,.c (.int _ i)=>match v with
  |.fsl sh ty xs=>bif Nat.beq (P.cellsOf e) ty.size then .when (zC i xs.length) (.c (.fptr sh ty (xs.getD i.toNat ty.dflt) 0)) else .stuck
  |.osl id r=>match h id with
   | some (.arr _ ty xs) => bif Nat.beq (P.cellsOf e) ty.size then (match r with
    |none=>.when (zC i xs.length) (.c (.eptr id i.toNat 0))
    |some (lo,n)=>.when (zC i n) (.c (.eptr id (lo+i.toNat) 0))) else .stuck
   | some (.mat _ xs) => bif Nat.beq (P.cellsOf e) 1 then (match r with
    |none=>.when (zC i xs.length) (.c (.mptr id i.toNat))
    |some _=>.stuck) else .stuck
   | some (.pmat _ _ n) => bif Nat.beq (P.cellsOf e) 1 then (match r with
    |none=>.when (zC i n) (.c (.mptr id i.toNat))
    |some _=>.stuck) else .stuck
   |_=>.stuck
  | .mrow id j ver => bif Nat.beq (P.cellsOf e) 1 then (match h id with
   |some (.mat v xs)=>bif Nat.beq v ver then .when (zC i (xs.getD j []).length) (.c (.meptr id j i.toNat ver)) else .stuck
   |_=>.stuck) else .stuck
  |_=>.stuck
 |some (.array n e),.c (.ptr id off),.c (.int _ i)=>bif Nat.beq (P.cellsOf e) 0 then .stuck else .alts (ya i (fun j=>.ptr id (off+j*P.cellsOf e)) 0 n)
 |some (.array n e),.c (.eptr id q off),.c (.int _ i)=>bif Nat.beq (P.cellsOf e) 0 then .stuck else .alts (ya i (fun j=>.eptr id q (off+j*P.cellsOf e)) 0 n)
 |some (.array n e),.c (.fptr sh t x off),.c (.int _ i)=>bif Nat.beq (P.cellsOf e) 0 then .stuck else .alts (ya i (fun j=>.fptr sh t x (off+j*P.cellsOf e)) 0 n)
 |_,_,_=>.stuck
def Np (P:Program)(t:TypeId)(x i:zT):yL:=match P.underlying t,x,i with
 |some (.array n e),.agg cs,.c (.int _ i)=>bif Nat.beq (P.cellsOf e) 1&&(match wW P e with|some false=>true|_=>false)&&Nat.beq cs.length n
   then .alts (ya i (fun j=>cs.getD j .undef) 0 n) else .stuck
 |_,_,_=>.stuck
def D9 (s:ByteArray):List Int:=s.data.toList.map fun b=>(b.toNat:Int)
def Nq (P:Program)(t:TypeId)(s:ByteArray)(i:zT):yL:=match P.underlying t,i with
 |some .string,.c (.int _ n)=>.when (zC n (D9 s).length) (.c (.int .u8 ((D9 s).getD n.toNat 0)))
 |_,_=>.stuck
def Nr (P:Program)(s:TypeId)(x:zT)(f:Nat):yL:=match P.underlying s,x with
 |some (.struct fs),.agg cs=>match fs[f]? with
  |some fd=>match kk cs fd.offset (P.cellsOf fd.type) with
   |some vs=>.ofO (nA (wW P fd.type) vs)
   |none=>.stuck
  |none=>.stuck
 |_,_=>.stuck
def Ea (place:Nat→Option (Nat×Nat))(cells:List zV):List (Nat×zT)→Option (List zV)
 |[]=>some cells
 |(i,v)::rest=>match place i,lK v with
  | some (off, size), some vs => bif Nat.beq vs.length size && Nat.ble (off + size) cells.length then (match uh cells off vs with
   |some cells=>Ea place cells rest
   |none=>none) else none
  |_,_=>none
def Ns (P:Program)(t:TypeId)(parts:List (Nat×zT)):yL:=match zeroCells P t with
 |none=>.stuck
 |some zero=>match P.underlying t with
  | some (.struct fs) => bif fs.toList.all (fun f => (P.info? f.type).isSome) then (match Ea (fun i=>(fs[i]?).map fun f=>(f.offset,P.cellsOf f.type)) zero parts with
   |some cells=>.one (.agg cells)
   |none=>.stuck) else .stuck
  | some (.array _ e) => bif (P.info? e).isSome then (match Ea (fun i=>some (i*P.cellsOf e,P.cellsOf e)) zero parts with
   |some cells=>.one (.agg cells)
   |none=>.stuck) else .stuck
  |_=>.stuck
def uj (h:Hp):zT→Option (List Int×yV)
 |.c (.osl jd none)=>match h jd with
  |some (.arr true (.int .i64) ys)=>some (ys,[(jd,.gone)])
  |_=>none
 |.c .nsl=>some ([],[])
 |_=>none
def uk (h:Hp)(rows:List (List Int)):List (Nat×zT)→Option (List (List Int)×yV)
 |[]=>some (rows,[])
 |(i,v)::rest=>match uj h v with
  |some (r,u)=>match uk h (rows.set i r) rest with
   |some (rows,us)=>some (rows,u++us)
   |none=>none
  |none=>none
def nC (h:Hp)(t:Ty)(xs:List t.den):List (Nat×zT)→Option (List t.den×yV)
 |[]=>some (xs,[])
 |(i,v)::rest=>match lK v with
  |some vs=>match kT h vs with
   |some (vs,u)=>match D6 t vs with
    |some x=>match nC h t (xs.set i x) rest with
     |some (xs,us)=>some (xs,u++us)
     |none=>none
    |none=>none
   |none=>none
  |none=>none
def o0:List Nat→Bool
 |[]=>true
 |a::l=> !(l.any (Nat.beq a))&&o0 l
def yf (P:Program)(mat:Bool)(nm:Nat)(h:Hp)(t:TypeId)(n:Nat)(parts:List (Nat×zT)):yL:=
 match P.underlying t,h nm with
 |some (.slice e),none=>bif Nat.ble (n*P.cellsOf e) 16777216 then
   (bif mat then (match gX P e,uk h (List.replicate n []) parts with
    |some (.sl (.int .i64)),some (rows,u)=>bif o0 (u.map (·.1))&&parts.all (fun p=>Nat.blt p.1 n) then .alts [(true,.c (.osl nm none),u++[(nm,.mat 0 rows)])] else .stuck
    |_,_=>.stuck)
   else (match gX P e with
    |some ty=>match nC h ty (List.replicate n ty.dflt) parts with
     |some (xs,u)=>bif parts.all (fun p=>Nat.blt p.1 n) then .alts [(true,.c (.osl nm none),u++[(nm,.arr true ty xs)])] else .stuck
     |none=>.stuck
    |none=>.stuck)) else .stuck
 |_,_=>.stuck
def yg (P:Program)(mat:Bool)(nm:Nat)(h:Hp)(t:TypeId)(l c:zT):yL:=
 match P.underlying t,h nm,l,c with
 |some (.slice e),none,.c (.int .i64 l),.c (.int .i64 c)=>
   let ok:=decide (0≤l)&&decide (l≤c)&&decide (c*(P.bytesOf e:Int)≤140737488355328)&&decide (c≤140737488355328)
   bif mat then (match gX P e with
    |some (.sl (.int .i64))=>.alts [(ok,.c (.osl nm none),[(nm,.mat 0 (List.replicate l.toNat []))])]
    |_=>.stuck)
   else (match gX P e with
    |some ty=>.alts [(ok,.c (.osl nm none),[(nm,.arr true ty (List.replicate l.toNat ty.dflt))])]
    |none=>.stuck)
 |_,_,_,_=>.stuck
def Eb (P:Program)(t:TypeId):Bool:=match P.underlying t with
 | some (.map k e) => (match P.underlying k,(P.info? e).bind (·.zero) with
  |some (.int .i64),some (.bool false)=>true
  |_,_=>false)
 |_=>false
def yh (P:Program)(nm:Nat)(h:Hp)(t:TypeId):yL:=
 match h nm with
 |none=>bif Eb P t then .alts [(true,.c (.map nm),[(nm,.imap [])])] else .stuck
 |some _=>.stuck
def yi (P:Program)(h:Hp)(t:TypeId)(x i:zT):yL:=
 match x,i with
 | .c (.map id), .c (.int .i64 n) => (match h id with
  |some (.imap cL)=>bif Eb P t then .one (.c (.bool ((cL.lookup n).getD false))) else .stuck
  |_=>.stuck)
 |_,_=>.stuck
def yj (P:Program)(h:Hp)(t:TypeId)(x i v:zT):yL:=
 match x,i,v with
 | .c (.map id), .c (.int .i64 n), .c (.bool b) => (match h id with
  |some (.imap cL)=>bif Eb P t then .alts [(true,.undef,[(id,.imap ((n,b)::cL))])] else .stuck
  |_=>.stuck)
 |_,_,_=>.stuck
def rM (len:Nat)(lo hi:Option zT):Option (Bool×Nat×Nat):=
 match lo,hi with
 |none,none=>some (true,0,len)
 |some (.c (.int _ l)),none=>some (decide (0≤l)&&decide (l≤(len:Int)),l.toNat,len)
 |none,some (.c (.int _ u))=>some (decide (0≤u)&&decide (u≤(len:Int)),0,u.toNat)
 |some (.c (.int _ l)),some (.c (.int _ u))=>some (decide (0≤l)&&decide (l≤u)&&decide (u≤(len:Int)),l.toNat,u.toNat)
 |_,_=>none
def um:List zV→Option (List Int)
 |[]=>some []
 |.int .i64 n::l=>match um l with|some r=>some (n::r)|none=>none
 |_=>none
def Nt (len:Nat):Option (Nat×Nat)→Option zT→Nat
 |none,_=>len
 |some p,none=>p.2
 |some p,some _=>len-p.1
def yk (P:Program)(h:Hp)(t:TypeId)(x:zT)(lo hi mx:Option zT):yL:=
 match P.underlying t,mx,x with
 | some (.slice e), none, .c (.fsl sh ty xs) => bif Nat.beq (P.cellsOf e) ty.size then (match rM xs.length lo hi with
  | some (ok, l, u) => .when ok (.c (.fsl sh ty (match lo,hi with
   |none,none=>xs
   |some _,none=>xs.drop l
   |none,some _=>xs.take u
   |some _,some _=>qW xs l (u-l))))
  |none=>.stuck) else .stuck
 |some (.slice e),none,.c (.osl id r)=>match h id with
  | some (.arr _ ty xs) => bif Nat.beq (P.cellsOf e) ty.size then (match rM (Nt xs.length r hi) lo hi with
   |some (ok,l,u)=>.when ok (.c (.osl id (some ((match r with|none=>0|some p=>p.1)+l,u-l))))
   |none=>.stuck) else .stuck
  |_=>.stuck
 |some (.slice e),some (.c (.int _ m)),.c (.osl id none)=>match h id with
  | some (.arr _ ty xs) => bif Nat.beq (P.cellsOf e) ty.size then (match lo,hi,rM xs.length lo hi with
   |some _,some _,some (ok,_,u)=>.when (ok&&decide ((u:Int)≤m)&&decide (m≤(xs.length:Int))) (.c .undef)
   |_,_,_=>.stuck) else .stuck
  |_=>.stuck
 | some (.array n e), none, .c (.ptr id off) => bif Nat.beq (P.cellsOf e) 1 then (match h id with
  |some (.box own cells)=>match lo,hi with
   |none,none=>bif Nat.ble (off+n) cells.length then .one (.c (.bsl id off n)) else .stuck
   |_,_=>match kk cells off n with
    |some vs=>match um vs,rM n lo hi with
     |some ns,some (ok,l,u)=>.alts [(ok,.c (.fsl true (.int .i64) (qW ns l (u-l))),bif own then[(id,.box false cells)] else[])]
     |_,_=>.stuck
    |none=>.stuck
  |_=>.stuck) else .stuck
 |_,_,_=>.stuck
def o6 (h:Hp)(t:Ty):zV→Option (List t.den×yV)
 |.nsl=>some ([],[])
 |.fsl sh s xs=>bif sh||s.flat then(fx s t xs).map (·,[]) else none
 |.nfl sh s xs=>bif sh||s.flat then(fx s t xs).map (·,[]) else none
 |.osl id r=>match h id with
  |some (.arr _ s xs)=>(fx s t (gC xs r)).map (·,[])
  |_=>none
 |_=>none
def yl (P:Program)(mat:Bool)(nm:Nat)(h:Hp)(t:TypeId)(b x:zT):yL:=
 match P.underlying t,h nm,b,x with
 |some (.slice e),none,.c b,.c x=>match gX P e with
  |none=>.stuck
  |some ty=>
   let room (n:Nat):Bool:=Nat.ble (n*P.bytesOf e) 140737488355328&&Nat.ble n 140737488355328
   bif mat then (match ty,b,x with
    |.sl (.int .i64),.osl id none,.osl jd none=>match h id,h jd with
     |some (.mat _ xs),some (.mat _ ys)=>bif Nat.beq id jd then .stuck else
       .alts [(room (xs.length+ys.length),.c (.osl nm none),[(id,.gone),(jd,.gone),(nm,.mat 0 (xs++ys))])]
     |_,_=>.stuck
    |_,_,_=>.stuck)
   else (match b with
    |.nsl=>match o6 h ty x with
     |some (ys,u)=>.alts [(room ys.length,.c (.osl nm none),u++[(nm,.arr true ty ys)])]
     |none=>.stuck
    |.osl id r=>match h id with
     |some (.arr true s fB)=>match fx s ty (gC fB r),o6 h ty x with
      | some xs, some (ys, u) => (match r with
       | some (0, _) | none => (bif (match x with | .osl jd _ => Nat.beq id jd | _ => false) then (match r,x,fx s ty fB with
         |some (0,i),.osl _ (some (j,m)),some zs=>.alts [(Nat.ble i j,.c (.osl nm (some (0,i+m))),[(id,.gone),(nm,.arr true ty (zs.take i++qW zs j m++zs.drop (i+m)))])]
         |_,_,_=>.stuck) else
         .alts [(room (xs.length+ys.length),.c (.osl nm none),u++[(id,.gone),(nm,.arr true ty (xs++ys))])])
       |_=>.stuck)
      |_,_=>.stuck
     |_=>.stuck
    |_=>.stuck)
 |_,_,_,_=>.stuck
def uo (xs:List Int):Nat→List zV→List zV
 |_,[]=>[]
 |i,.int .i64 n::cs=>.int .i64 (bif Nat.blt i xs.length then xs.getD i 0 else n)::uo xs (i+1) cs
 |i,c::cs=>c::uo xs (i+1) cs
def ym (h:Hp)(d s:zT):yL:=match d,s with
 |.c (.bsl id off n),.c s=>match h id,(match s with|.nsl=>some ⟨.int .i64,[]⟩|s=>gZ h s:Option ((t:Ty)×List t.den)) with
  |some (.box true cells),some ⟨.int .i64,ys⟩=>match kk cells off n with
   |some vs=>match um vs with
    |some _=>.alts [(true,.c (.int .i64 ((min ys.length n:Nat):Int)),[(id,.box true (cells.take off++uo ys 0 vs++cells.drop (off+n)))])]
    |none=>.stuck
   |none=>.stuck
  |_,_=>.stuck
 |_,_=>.stuck
def Iw (P:Program)(h:Hp)(t:TypeId)(id lo n:Nat):yL:=match P.underlying t,h id with
 |some (.slice e),some (.arr true s xs)=>match gX P e with
  |some ty=>bif nz ty s then .alts [(true,.undef,[(id,.arr true s (xs.take lo++List.replicate n s.dflt++xs.drop (lo+n)))])] else .stuck
  |none=>.stuck
 |_,_=>.stuck
def Ix (lt:Bool):List zT→yL
 |[.c (.int k x),.c (.int _ y)]=>.one (.c (.int k (bif lt then(bif decide (y<x) then y else x) else(bif decide (y>x) then y else x))))
 |[.c (.int k x),.c (.int _ y),.c (.int _ z)]=>
  let m (a b:Int):Int:=bif lt then(bif decide (b<a) then b else a) else(bif decide (b>a) then b else a)
  .one (.c (.int k (m (m x y) z)))
 |_=>.stuck
abbrev Iy:=Nat→Nat→Nat→List zT→Hp→yL
inductive CS where
 |int (k:IntKind)|bool|dat (sh:Bool) (t:Ty)|lit (v:zV)
inductive VS where
 |c (x:CS)|agg (l:List CS)
inductive OS where
 |box (own:Bool) (l:List CS)|robox (l:List CS)|arr (own:Bool) (t:Ty)|mat|pmat|imap
abbrev SL:List CS→Type
 |[]=>Unit
 |.int _::l=>Int×SL l
 |.bool::l=>Bool×SL l
 |.dat _ t::l=>List t.den×SL l
 |.lit _::l=>SL l
def VS.cells:VS→List CS
 |.c x=>[x]
 |.agg l=>l
abbrev SV:List (Nat×VS)→Type
 |[]=>Unit
 |s::l=>SL s.2.cells×SV l
abbrev OS.den:OS→Type
 |.box _ l=>SL l
 |.robox l=>SL l
 |.arr _ t=>List t.den
 |.mat=>List (List Int)
 |.pmat=>List (List Int)×Nat
 |.imap=>List (Int×Bool)
abbrev OL:List OS→Type
 |[]=>Unit
 |o::l=>o.den×OL l
structure zE where
 slots:List (Nat×VS)
 objs:List OS
 grow:List (Nat×Option Nat×Ty×Bool)
abbrev zE.den (S:zE):Type:=SV S.slots×OL S.objs
def Iz:List Nat→List Nat→Bool
 |[],[]=>true
 |a::l,b::m=>Nat.beq a b&&Iz l m
 |_,_=>false
def Nu:zV→zV→Bool
 |.undef,_=>true
 |.nsl,.nsl|.nilp,.nilp|.nilf,.nilf|.nilm,.nilm=>true
 |.osl a none,.osl b none=>Nat.beq a b
 |.bsl a i n,.bsl b j m=>Nat.beq a b&&Nat.beq i j&&Nat.beq n m
 |.ptr a i,.ptr b j=>Nat.beq a b&&Nat.beq i j
 |.fn f c,.fn g d=>Nat.beq f g&&Iz c d
 |.map a,.map b=>Nat.beq a b
 |_,_=>false
def kl:(l:List CS)→List zV→Option (SL l)
 |[],[]=>some ()
 |.int k::l,.int j n::vs=>bif jW j k then(match kl l vs with|some d=>some (n,d)|none=>none) else none
 |.bool::l,.bool b::vs=>match kl l vs with|some d=>some (b,d)|none=>none
 | .dat sh t :: l, .fsl Ec s xs :: vs => bif Ec || !sh then (match fx s t xs,kl l vs with
  |some xs,some d=>some (xs,d)
  |_,_=>none) else none
 |.dat _ _::l,.nsl::vs=>match kl l vs with|some d=>some ([],d)|none=>none
 |.lit c::l,v::vs=>bif Nu c v then kl l vs else none
 |_,_=>none
def Nv (v:VS)(a:zT):Option (SL v.cells):=match v,a with
 |.c x,.c y=>kl [x] [y]
 |.agg l,.agg vs=>kl l vs
 |_,_=>none
def IA (o:OS)(x:Obj):Option o.den:=match o,x with
 |.box own l,.box kU cells=>bif own==kU then kl l cells else none
 |.robox l,.robox cells=>kl l cells
 |.arr own t,.arr kU s xs=>bif own==kU then fx s t xs else none
 |.mat,.mat _ xs=>some xs
 |.pmat,.pmat _ xs n=>some (xs,n)
 |.imap,.imap cL=>some cL
 |_,_=>none
def my:(l:List CS)→SL l→List zV
 |[],_=>[]
 |.int k::l,d=>.int k d.1::my l d.2
 |.bool::l,d=>.bool d.1::my l d.2
 |.dat sh t::l,d=>.fsl sh t d.1::my l d.2
 |.lit c::l,d=>c::my l d
def Nw (v:VS)(d:SL v.cells):zT:=match v,d with
 |.c x,d=>match my [x] d with|c::_=>.c c|[]=>.undef
 |.agg l,d=>.agg (my l d)
def IB (o:OS)(d:o.den):Obj:=match o,d with
 |.box own l,d=>.box own (my l d)
 |.robox l,d=>.robox (my l d)
 |.arr own t,xs=>.arr own t xs
 |.mat,xs=>.mat 0 xs
 |.pmat,d=>.pmat 0 d.1 d.2
 |.imap,cL=>.imap cL
def yn:(l:List (Nat×VS))→SV l→List (Nat×zT)
 |[],_=>[]
 |s::l,d=>(s.1,Nw s.2 d.1)::yn l d.2
def o9:(l:List OS)→OL l→List Obj
 |[],_=>[]
 |o::l,d=>IB o d.1::o9 l d.2
def zL (base:Nat)(S:zE)(d:S.den):St:=
  { t:=fun n=>match(yn S.slots d.1).lookup n with|some v=>v|none=>.undef,
    h:=fun n=>bif Nat.ble base n then(o9 S.objs d.2)[n-base]? else none}
inductive Ex where
 |normal|ret|exit (id:Nat)
def Nx:Ex→Ex→Bool
 |.normal,.normal|.ret,.ret=>true
 |.exit a,.exit b=>Nat.beq a b
 |_,_=>false
abbrev rN:List (Ex×zE)→Type
 |[]=>Empty
 |[p]=>p.2.den
 |p::q::l=>p.2.den⊕rN (q::l)
abbrev pb:List zE→Type
 |[]=>Empty
 |[S]=>S.den
 |S::T::l=>S.den⊕pb (T::l)
structure zX where
 ins:List zE
 outs:List (Ex×zE)
 X:Type
 sum:Nat→pb ins→Option X
 elim:Nat→X→(R:Type)→(Ex→St→Option R)→Option R
structure zY where
 mats:List Nat
 loops:List (Nat×zX)
 unr:List (Nat×Nat)
 wise:Bool
structure Env where
 P:Program
 eqT:TypeId→Bool
 sums:Iy
def nD (pre:Nat):Option Nat→Nat
 |some d=>pre+100*(d+1)
 |none=>pre
def rO:zT→Option Nat
 |.c (.ptr id 0)=>some id
 |_=>none
def Ny (P:Program)(mat:Bool)(nm:Nat)(h:Hp)(b:Builtin)(ts:Array TypeId)(l:List zT):yL:=match b with
 |.len=>match l with
  |[.c v]=>match(ts[0]?).bind P.underlying with
   |some (.slice _)=>match xY h v with
    |some n=>.one (.c (.int .i64 (n:Int)))
    |none=>.stuck
   |_=>.stuck
  |_=>.stuck
 |.append=>match l with
  |[b,x]=>match ts.toList with
   |[t,u]=>bif Nat.beq t u then yl P mat nm h t b x else .stuck
   |_=>.stuck
  |_=>.stuck
 |.copy=>match l with
  |[d,s]=>match(ts[0]?).bind P.underlying with
   |some (.slice e)=>bif Nat.beq (P.cellsOf e) 1 then ym h d s else .stuck
   |_=>.stuck
  |_=>.stuck
 |.clear=>match l with
  |[.c (.osl id (some (lo,n)))]=>match ts[0]? with
   |some t=>Iw P h t id lo n
   |none=>.stuck
  |_=>.stuck
 |.max=>Ix false l
 |.min=>Ix true l
 |_=>.stuck
def iN (E:Env)(A:zY)(k pre:Nat)(o:Oper)(ev:Operand→zT)(h:Hp):yL:=
 let nm:=nD pre o.dst;let mat:=match o.dst with|some d=>A.mats.any (Nat.beq d)|none=>false
 match o.op with
 |.move x|.assign x=>.one (ev x)
 |.pick c a b=>match ev c with
  |.c (.bool c)=>match ev a,ev b with
   |.c (.bool a),.c (.bool b)=>.one (.c (.bool (bif c then a else b)))
   |va,vb=>.alts [(c,va,[]),(true,vb,[])]
  |_=>.stuck
 |.alloc t=>match h nm,zeroCells E.P t with
  |none,some zs=>.alts [(true,.c (.ptr nm 0),[(nm,.box true zs)])]
  |_,_=>.stuck
 |.box t x=>match h nm,lK (ev x) with
  |none,some vs=>.alts [(true,.c (.ptr nm 0),[(nm,.box (!mat) vs)])]
  |_,_=>.stuck
 |.build t parts=>Ns E.P t (parts.toList.map fun p=>(p.1,ev p.2))
 |.buildSlice t n parts=>yf E.P mat nm h t n (parts.toList.map fun p=>(p.1,ev p.2))
 |.load t a=>yc E.P h t (ev a)
 |.store t a v=>yd E.P h t (ev a) (ev v)
 |.nilCheck x=>match ev x with
  |.c (.ptr a b)=>.one (.c (.ptr a b))
  |.c (.eptr a b c)=>.one (.c (.eptr a b c))
  |.c (.fptr s t x off)=>.one (.c (.fptr s t x off))
  |.c (.fn f c)=>.one (.c (.fn f c))
  |_=>.stuck
 |.binOp op t x y _=>
  bif Nl y && Nk op then (match E.P.underlying t,ev x with
   |some d,.c v=>match Nj d y v with
    |some b=>.one (.c (.bool (nB op b)))
    |none=>match d,y,xZ h v with
     |.slice _,.const (.slice none 0 0),some n=>.when (Nat.blt 0 n) (.c (.bool (nB op false)))
     |_,_,_=>.stuck
   |_,_=>.stuck)
  else Nm E.P E.eqT op t x y (ev x) (ev y)
 |.unOp op _ x=>Nn op (ev x)
 |.convert s d x=>match E.P.underlying s,E.P.underlying d,ev x with
  |some (.int _),some (.int k),.c (.int _ n)=>.one (.c (.int k (k.wrap n)))
  |some (.slice e),some .string,.c c=>match E.P.underlying e,xX h c with
   |some (.int .u8),some xs=>.one (.c (.str xs))
   |_,_=>.stuck
  |_,_,_=>.stuck
 | .makeFunc (.func f) first captured => bif Nat.beq first.size 0 then (match captured.toList.mapM (fun x=>rO (ev x)) with
   |some ids=>.one (.c (.fn f ids))
   |none=>.stuck) else .stuck
 |.makeSlice t l c=>yg E.P mat nm h t (ev l) (ev c)
 |.makeMap t none=>yh E.P nm h t
 |.lookup t x i false=>yi E.P h t (ev x) (ev i)
 |.mapUpdate t x i y=>yj E.P h t (ev x) (ev i) (ev y)
 |.slice t x lo hi mx=>yk E.P h t (ev x) (lo.map ev) (hi.map ev) (mx.map ev)
 |.fieldAddr t x f=>No E.P t (ev x) f
 |.field t x f=>Nr E.P t (ev x) f
 |.indexAddr t x i=>ye E.P h t (ev x) (ev i)
 |.index t x i=>match x with
  |.const (.string s)=>Nq E.P t s (ev i)
  |_=>Np E.P t (ev x) (ev i)
 |.extract t i=>match ev t with
  |.tup xs=>match xs[i]? with
   |some (g,vs)=>.ofO (nA (some g) vs)
   |none=>.stuck
  |_=>.stuck
 |.call c=>match c.callee with
  |.builtin b=>Ny E.P mat nm h b c.argTypes (c.args.toList.map ev)
  |.value f=>match ev f with
   |.c (.fn f cap)=>E.sums k nm f (c.args.toList.map ev++cap.map fun id=>.c (.ptr id 0)) h
   |_=>.stuck
  |_=>.stuck
 |_=>.stuck
structure yo where
 i:Nat
 nm:Nat
 upd:List Nat
 refs:Option (List Nat)
def yY:zV→List Nat
 |.osl id _|.bsl id _ _|.ptr id _|.eptr id _ _|.mrow id _ _|.mptr id _|.meptr id _ _ _|.map id=>[id]
 |.fn _ cap=>cap
 |_=>[]
def yG:zT→List Nat
 |.c v=>yY v
 |.agg vs=>vs.flatMap yY
 |.tup xs=>xs.flatMap fun x=>x.2.flatMap yY
 |_=>[]
def vR:zT→Bool
 |.c (.ptr _ _)|.c (.map _)|.c (.eptr _ _ _)|.c (.mptr _ _)|.c (.meptr _ _ _ _)|.c (.bsl _ _ _)=>true
 |.c (.fn _ cap)=> !cap.isEmpty
 |_=>false
def Nz:Op→Bool
 |.call {callee:=.value _,..}=>true
 |_=>false
def Yj:Op→Bool
 |.move _|.assign _|.nilCheck _|.fieldAddr _ _ _|.field _ _ _|.extract _ _=>true
 |_=>false
def nE (ev:Operand→zT)(o:Oper):Option (List Nat):=bif Yj o.op then some [] else
 let vals:=o.op.operands.toList.map ev
 bif Nz o.op&&vals.any vR then none else some (vals.flatMap yG)
def IC (a:List Nat):Option (List Nat)→Bool
 |none=> !a.isEmpty
 |some b=>a.any fun x=>b.any (Nat.beq x)
def kV (nm a:Nat):Bool:=Nat.ble nm a&&Nat.blt a (nm+100)
def pc (x y:yo):Bool:=IC x.upd y.refs||IC y.upd x.refs||x.upd.any (kV y.nm)||y.upd.any (kV x.nm)||x.upd.any fun a=>y.upd.any (Nat.beq a)
def kW (b:Array Nat)(i j:Nat):Bool:=(b.getD j 0).testBit i
def pf (ops:Array Oper)(i j:Nat):Bool:=match ops[i]?,ops[j]? with
 |some x,some y=>x.apart ops y
 |_,_=>false
def Ed (ops:Array Oper):Bool:=ops.toList.zipIdx.all fun p=>p.1.after.toList.all fun e=> !Region.binds .any e||Nat.blt e.on p.2
def rP (na nt:Nat):Option Nat→Bool
 |some d=>Nat.ble na d&&Nat.blt d nt
 |none=>true
def jC (u:yV):List Nat:=u.map (·.1)
section
variable (E:Env) (A:zY) (k pre na nt:Nat) {R:Type}
def ID (o:Oper)(st:St)(K:zT→yV→St→Option R):Option R:=
 bif rP na nt o.dst then
  (iN E A k pre o st.ev st.h).elim fun v u=>K v u {t:=gA st.t o.dst v,h:=qF st.h u}
 else none
def IE (ops:Array Oper)(j:Nat):Option Nat:=(ops[j]?).bind (·.dst)
def IF (ops:Array Oper)(o:Oper)(st:St)(yes no:St→Option R):Option R:=match o.guard with
 |none=>yes st
 |some (j,want)=>match IE ops j with
  |none=>none
  |some s=>match st.t s with
   |.c (.bool b)=>bif b then(let st:={st with t:=wP st.t s (.c (.bool true))};bif want then yes st else no st)
     else(let st:={st with t:=wP st.t s (.c (.bool false))};bif want then no st else yes st)
   |.skp=>no st
   |_=>none
def IG (ops:Array Oper):List (Nat×Oper)→St→(St→Option R)→Option R
 |[],st,K=>K st
 |(_,o)::rest,st,K=>IF ops o st
   (fun st=>ID E A k pre na nt o st fun _ _ st=>IG ops rest st K)
   (fun st=>bif rP na nt o.dst then IG ops rest {st with t:=gA st.t o.dst .skp} K else none)
def yp (ops:Array Oper)(b:Array Nat):List (Nat×Oper)→List yo→St→(St→Option R)→Option R
 |[],_,st,K=>K st
 |(i,o)::rest,done,st,K=>
  bif done.all fun d=>kW b d.i i||pf ops d.i i then IF ops o st
   (fun st=>let r:=nE st.ev o;ID E A k pre na nt o st fun _ u st=>
    let x:yo:=⟨i,nD pre o.dst,jC u,r⟩
    bif done.all fun d=>kW b d.i i|| !pc d x then yp ops b rest (x::done) st K else none)
   (fun st=>bif rP na nt o.dst then yp ops b rest (⟨i,nD pre o.dst,[],some []⟩::done) {st with t:=gA st.t o.dst .skp} K else none)
  else none
def vA5:Option Obj→List Nat
 |some (.box _ cells)=>cells.flatMap yY
 |some (.robox cells)=>cells.flatMap yY
 |_=>[]
def yq (h:Hp):Nat→List Nat→List Nat→List Nat
 |0,_,seen=>seen
 |_,[],seen=>seen
 |n+1,id::todo,seen=>bif seen.any (Nat.beq id) then yq h n todo seen else yq h n (vA5 (h id)++todo) (seen++[id])
def jF (id:Nat):List Nat→Nat→Option Nat
 |[],_=>none
 |a::l,i=>bif Nat.beq a id then some i else jF id l (i+1)
def rQ (h:Hp)(ρ:Nat→Option Nat):zV→zV
 |.osl id r=>match ρ id with|some i=>.osl i r|none=>.undef
 |.bsl id a b=>match ρ id with|some i=>.bsl i a b|none=>.undef
 |.ptr id a=>match ρ id with|some i=>.ptr i a|none=>.undef
 |.eptr id a b=>match ρ id with|some i=>.eptr i a b|none=>.undef
 |.mrow id a ver=>match ρ id,h id with
  |some i,some (.mat v _)=>bif Nat.beq v ver then .mrow i a 0 else .undef
  |_,_=>.undef
 |.mptr id a=>match ρ id with|some i=>.mptr i a|none=>.undef
 |.meptr id a b ver=>match ρ id,h id with
  |some i,some (.mat v _)=>bif Nat.beq v ver then .meptr i a b 0 else .undef
  |_,_=>.undef
 |.map id=>match ρ id with|some i=>.map i|none=>.undef
 |.fn f cap=>match cap.mapM ρ with|some c=>.fn f c|none=>.undef
 |v=>v
def Yk (h:Hp)(ρ:Nat→Option Nat):zT→zT
 |.c v=>.c (rQ h ρ v)
 |.agg vs=>.agg (vs.map (rQ h ρ))
 |.tup xs=>.tup (xs.map fun x=>(x.1,x.2.map (rQ h ρ)))
 |v=>v
def rR (h:Hp)(ρ:Nat→Option Nat):Obj→Obj
 |.box own cells=>.box own (cells.map (rQ h ρ))
 |.robox cells=>.robox (cells.map (rQ h ρ))
 |.mat _ xs=>.mat 0 xs
 |.pmat _ xs n=>.pmat 0 xs n
 |o=>o
def fD:Nat:=1000000
def NA (st:St)(s:Nat):Option Nat→St
 |none=>match st.t s with
  |.c c=>match lM st.h c with
   |some (c',u)=>{t:=wP st.t s (.c c'),h:=qF st.h u}
   |none=>st
  |_=>st
 |some j=>match st.t s with
  |.c (.ptr id 0)=>match st.h id with
   |some (.box true cells)=>match cells[j]? with
    |some c=>match lM st.h c with
     |some (c',u)=>{st with h:=qX (qF st.h u) id (.box true (cells.set j c'))}
     |none=>st
    |none=>st
   |_=>st
  |.agg cells=>match cells[j]? with
   |some c=>match lM st.h c with
    |some (c',u)=>{t:=wP st.t s (.agg (cells.set j c')),h:=qF st.h u}
    |none=>st
   |none=>st
  |_=>st
def Yl:Ty→Bool
 |.bool=>true
 |_=>false
def NB (st:St)(nm:Nat)(g:Nat×Option Nat×Ty×Bool):St:=bif g.2.2.2&&Yl g.2.2.1 then NA st g.1 g.2.1 else match g.2.1 with
 |none=>match st.t g.1 with
  |.c .nsl=>{t:=wP st.t g.1 (.c (.osl nm none)),h:=qX st.h nm (bif g.2.2.2 then .mat 0 [] else .arr true g.2.2.1 [])}
  |_=>st
 |some j=>match st.t g.1 with
  |.c (.ptr id 0)=>match st.h id with
   |some (.box true cells)=>match cells[j]? with
    |some .nsl=>{st with h:=qX (qX st.h nm (bif g.2.2.2 then .mat 0 [] else .arr true g.2.2.1 [])) id (.box true (cells.set j (.osl nm none)))}
    |_=>st
   |_=>st
  |_=>st
def IH (st:St):Nat→List (Nat×Option Nat×Ty×Bool)→Option St
 |_,[]=>some st
 |nm,g::l=>match st.h nm with
  |none=>IH (NB st nm g) (nm+1) l
  |some _=>none
def uq (base : Nat) (h : Hp) (ids : List Nat) : Hp := fun n => bif Nat.ble base n then (match ids[n-base]? with
 |some id=>(h id).map (rR h fun i=>(jF i ids 0).map (base+·))
 |none=>none) else none
def II (f:zT→zT)(t:Nat→zT):(l:List (Nat×VS))→Option (SV l)
 |[]=>some ()
 |s::l=>match Nv s.2 (f (t s.1)),II f t l with
  |some d,some ds=>some (d,ds)
  |_,_=>none
def IJ (f:Obj→Obj)(h:Hp):(l:List OS)→List Nat→Option (OL l)
 |[],[]=>some ()
 |o::l,id::ids=>match(h id).bind fun x=>IA o (f x),IJ f h l ids with
  |some d,some ds=>some (d,ds)
  |_,_=>none
 |_,_=>none
def NC (g0 base n:Nat)(S:zE)(st:St):Option S.den:=match IH st g0 S.grow with
 |none=>none
 |some st=>
  let ids:=yq st.h n (S.slots.flatMap fun s=>yG (st.t s.1)) []
  match II (Yk st.h fun i=>(jF i ids 0).map (base+·)) st.t S.slots,IJ (rR st.h fun i=>(jF i ids 0).map (base+·)) st.h S.objs ids with
  |some a,some b=>some (a,b)
  |_,_=>none
def Ee (S:zE)(st:St):Option S.den:=NC (pre+500000) (pre+fD) 400 S st
def yr:(l:List zE)→St→Option (pb l)
 |[],_=>none
 |[S],st=>Ee pre S st
 |S::T::l,st=>match Ee pre S st with
  |some d=>some (.inl d)
  |none=>match yr (T::l) st with
   |some d=>some (.inr d)
   |none=>none
def IK (base:Nat):(l:List zE)→pb l→(St→Option R)→Option R
 |[],_,_=>none
 |[S],d,K=>K (zL base S d)
 |S::T::l,d,K=>match d with
  |.inl d=>K (zL base S d)
  |.inr d=>IK base (T::l) d K
def Ef:(l:List (Ex×zE))→Ex→St→Option (rN l)
 |[],_,_=>none
 |[p],e,st=>bif Nx p.1 e then Ee pre p.2 st else none
 |p::q::l,e,st=>match(bif Nx p.1 e then Ee pre p.2 st else none) with
  |some d=>some (.inl d)
  |none=>match Ef (q::l) e st with
   |some d=>some (.inr d)
   |none=>none
def yt (base:Nat):(l:List (Ex×zE))→rN l→(Ex→St→Option R)→Option R
 |[],_,_=>none
 |[p],d,K=>K p.1 (zL base p.2 d)
 |p::q::l,d,K=>match d with
  |.inl d=>K p.1 (zL base p.2 d)
  |.inr d=>yt base (q::l) d K
def Ym ins outs {X:Type}(ko:rN outs→X)(again:pb ins→Option X):Ex→St→Option X
 |.normal,st=>match yr pre ins st with
  |some d=>again d
  |none=>none
 |e,st=>match Ef pre outs e st with
  |some o=>some (ko o)
  |none=>none
def ur:Code→Option Nat
 |.region id _ _=>some id
 |.seq a b=>match ur a with|some i=>some i|none=>ur b
 |.cond _ a b=>match ur a with|some i=>some i|none=>ur b
 |.block _ b|.loop b|.scope b=>ur b
 |_=>none
def rS (b:Code):Option zX:=match ur b with
 |some i=>A.loops.lookup i
 |none=>none
def vN5 (b:Code):Nat:=match ur b with
 |some i=>(A.unr.lookup i).getD 0
 |none=>0
def ND (b:St→(Ex→St→Option R)→Option R):Nat→St→(Ex→St→Option R)→Option R
 |0,_,_=>none
 |n+1,st,K=>b st fun e st=>match e with
  |.normal=>ND b n st K
  |e=>K e st
def IL (c:Operand)(b:Bool)(st:St):St:=match A.wise,c with
 |true,.tmp s=>{st with t:=wP st.t s (.c (.bool b))}
 |_,_=>st
def g9:Code→St→(Ex→St→Option R)→Option R
 |.skip,st,K=>K .normal st
 |.region _ ops draw,st,K=>bif draw
   then bif !Ed ops then none else yp E A k pre na nt ops (Region.before ops) (ops.toList.zipIdx.map fun p=>(p.2,p.1)) [] st (K .normal)
   else IG E A k pre na nt ops (ops.toList.zipIdx.map fun p=>(p.2,p.1)) st (K .normal)
 |.seq a b,st,K=>g9 a st fun e st=>match e with
  |.normal=>g9 b st K
  |e=>K e st
 |.cond c a b,st,K=>match st.ev c with
  |.c (.bool t)=>bif t then g9 a (IL A c true st) K else g9 b (IL A c false st) K
  |_=>none
 |.block id b,st,K=>g9 b st fun e st=>match e with
  |.exit i=>bif Nat.beq i id then K .normal st else K (.exit i) st
  |e=>K e st
 |.loop b,st,K=>match rS A b with
  |none=>ND (g9 b) (vN5 A b) st K
  |some L=>match yr pre L.ins st with
   |none=>none
   |some d=>(L.sum k d).bind fun x=>L.elim (pre+fD) x R K
 |.exit id,st,K=>K (.exit id) st
 |.ret,st,K=>K .ret st
 |_,_,_=>none
def rT (st:St):ResultVar→Option zT
 |.tmp t=>some (st.t t)
 |.cell a t=>match st.t a with
  |.c (.ptr id off)=>match st.h id with
   |some (.box _ cells)=>match kk cells off (E.P.cellsOf t) with
    |some vs=>nA (wW E.P t) vs
    |none=>none
   |_=>none
  |_=>none
def yu:zT→Option (Bool×List zV)
 |.c v=>some (false,[v])
 |.agg vs=>some (true,vs)
 |_=>none
def IM (fn:Func)(st:St):Option zT:=match fn.results.toList with
 |[]=>some (.tup [])
 |[r]=>rT E st r
 |rs=>match rs.mapM (fun r=>(rT E st r).bind yu) with
  |some xs=>some (.tup xs)
  |none=>none
def IN (args:List zT):Nat→zT:=fun n=>args.getD n .skp
def ja (fn:Func)(args:List zT)(h:Hp)(K:zT→St→Option R):Option R:=match fn.body with
 |none=>none
 |some code=>bif Nat.ble args.length fn.ntmps then g9 E A k pre na fn.ntmps code {t:=IN args,h:=h} fun e st=>match e with
  |.exit _=>none
  |_=>match IM E fn st with
   |some v=>K v st
   |none=>none
  else none
end
def _root_.Go.Value.one1:Value→Bool
 |.agg _|.tuple _=>false
 |_=>true
def yH (H:Array Go.Obj)(B o:Nat):Option Value:=match H[B]? with
 |some (.cells c _ _)=>c[o]?
 |_=>none
def qO (H:Array Go.Obj)(B:Nat):Nat:=match H[B]? with
 |some (.cells c _ _)=>c.size
 |_=>0
theorem pg (w:World) B o:w.cell? ⟨B,o,none⟩=yH w.heap B o:=by
 rfl
theorem NF {H H' B}(h:H'[B]? =H[B]?) o:yH H' B o=yH H B o:=by unfold yH;rw[h]
theorem yv {H H' B}(h:H'[B]? =H[B]?):qO H' B=qO H B:=by unfold qO;rw[h]
def qB (H:Array Go.Obj)(F:Nat→Prop):(t:Ty)→t.den→(Nat→Option Value)→Prop
 |.int k,n,rd=>rd 0=some (.int k n)
 |.bool,b,rd=>rd 0=some (.bool b)
 |.sl t,xs,rd=>∃A n c,rd 0=some (.slice A n c)∧n=xs.length∧n≤c∧
   ((xs=[]∧(A=none→c=0))∨∃B o,A=some ⟨B,o,none⟩∧F B∧∀i (h:i<xs.length),qB H F t xs[i] (fun j=>yH H B (o+i*t.size+j)))
 |.pair a b,p,rd=>qB H F a p.1 rd∧qB H F b p.2 (fun j=>rd (j+a.size))
theorem yR {H H' F F'}(hF:∀b,F b→F' b)(hs:∀b,F b→H'[b]? =H[b]?):
  ∀t x rd eK,(∀j,j<t.size→eK j=rd j)→qB H F t x rd→qB H' F' t x eK
 |.int k,n,rd,eK,hr,h
 |.bool,n,rd,eK,hr,h=>by simp[qB] at h⊢;rw[hr 0 (by simp[Ty.size])];exact h
 |.sl t,xs,rd,eK,hr,h=>by
  obtain⟨A,n,c,h1,h2,h3,h4⟩:=h;refine⟨A,n,c,by rw[hr 0 (by simp[Ty.size])];exact h1,h2,h3,?_⟩;rcases h4 with h4|⟨B,o,e,hB,h4⟩
  ·simp_all
  ·exact .inr ⟨B,o,e,hF B hB,fun i hi=>yR hF hs t _ _ _ (fun j _=>NF (hs B hB) _) (h4 i hi)⟩
 |.pair a b,p,rd,eK,hr,h=>by
  exact⟨yR hF hs a _ _ _ (fun j hj=>hr j (by simp[Ty.size];omega)) h.1,
   yR hF hs b _ _ _ (fun j hj=>hr _ (by simp[Ty.size];omega)) h.2⟩
theorem Ty.size_pos:∀t:Ty,0<t.size
 |.int _|.bool|.sl _=>by simp[Ty.size]
 |.pair a b=>by have:=Ty.size_pos a;simp[Ty.size];omega
structure zZ where
 blk:Option Nat
 len:Nat
 sz:Nat
 ver:Nat
 rows:List (Option Nat×Nat)
def zZ.fp (C:zZ):List Nat:=C.blk.toList++C.rows.filterMap (·.1)
structure zZ.le (C C':zZ):Prop where
 blk:C'.blk=C.blk
 len:C'.len=C.len
 sz:C'.sz=C.sz
 ver:C.ver≤C'.ver
 rows:C'.ver=C.ver→C'.rows=C.rows
theorem zZ.le_refl (C:zZ):C.le C:=⟨rfl,rfl,rfl,by simp,by simp⟩
theorem zZ.le_trans {A B C:zZ}(h:A.le B)(k:B.le C):A.le C:=
 ⟨k.blk.trans h.blk,k.len.trans h.len,k.sz.trans h.sz,Nat.le_trans h.ver k.ver,fun e=>by
  have:=h.ver;have:=k.ver;rw[k.rows (by omega),h.rows (by omega)]⟩
structure zI where
 κ:Nat→Option zZ
 F:Nat→Prop
 G:Nat→Prop
 h:Hp
 H:Array Go.Obj
def zK {α β:Type}(R:α→β→Prop):List α→List β→Prop
 |[],[]=>True
 |a::l,b::m=>R a b∧zK R l m
 |_,_=>False
theorem zK.mono {α β R S}(h:∀a b,R a b→S a b):∀{l:List α} {m:List β},zK R l m→zK S l m
 |[],[],_=>trivial
 |_::_,_::_,hh=>⟨h _ _ hh.1,zK.mono h hh.2⟩
theorem zK.length {α β R}:∀{l:List α} {m:List β},zK R l m→l.length=m.length
 |[],[],_=>rfl
 |_::_,_::_,hh=>by simp[zK.length hh.2]
theorem zK.get {α β R}:∀{l:List α} {m:List β},zK R l m→∀i h (h':i<m.length),R l[i] m[i]
 |_::_,_::_,hh,0,_,_=>hh.1
 |_::_,_::_,hh,i+1,h,h'=>zK.get hh.2 i (by simp_all) (by simp_all)
theorem zK.of_get {α β R}:∀{l:List α} {m:List β},l.length=m.length→(∀i h (h':i<m.length),R l[i] m[i])→zK R l m
 |[],[],_,_=>trivial
 |a::l,b::m,hl,h=>⟨h 0 (by simp) (by simp),zK.of_get (by simp_all) fun i h1 h2=>h (i+1) (by simp_all) (by simp_all)⟩
theorem zK.append {α β R}:∀{l l':List α} {m m':List β},zK R l m→zK R l' m'→zK R (l++l') (m++m')
 |[],_,[],_,_,k=>k
 |_::_,_,_::_,_,h,k=>⟨h.1,zK.append h.2 k⟩
theorem zK.drop {α β R}:∀n {l:List α} {m:List β},zK R l m→zK R (l.drop n) (m.drop n)
 |0,_,_,h=>h
 |n+1,[],[],_=>trivial
 |n+1,_::_,_::_,h=>zK.drop n h.2
theorem zK.take {α β R}:∀n {l:List α} {m:List β},zK R l m→zK R (l.take n) (m.take n)
 |0,_,_,_=>by simp[zK]
 |n+1,[],[],_=>trivial
 |n+1,_::_,_::_,h=>⟨h.1,zK.take n h.2⟩
theorem zK.set {α β R}{a:α}{b:β}(yw:R a b):∀n {l m},zK R l m→zK R (l.set n a) (m.set n b)
 |_,[],[],_=>trivial
 |0,_::_,_::_,h=>⟨yw,h.2⟩
 |n+1,_::_,_::_,h=>⟨h.1,zK.set yw n h.2⟩
def wE (H:Array Go.Obj)(C:zZ)(lo n:Nat)(v:Value):Prop:=∃A c,v=.slice A n c∧match C.blk with
 |none=>A=none∧n=0∧c=0
 |some B=>n≤c∧∃a,A=some ⟨B,a,none⟩∧(c=0∨a=lo*C.sz)∧(lo+c)*C.sz≤qO H B
def kp (H:Array Go.Obj)(rb:Option Nat)(n:Nat)(v:Value):Prop:=match rb with
 |none=>v=.slice none 0 0∧n=0
 |some B=>∃a c,v=.slice (some ⟨B,a,none⟩) n c∧n≤c∧(c=0∨a=0)∧c≤qO H B
def NG (C:zZ)(lo:Nat)(v:Value):Prop:=∃A n c,v=.slice A n c∧C.len≤lo+c
def zQ (M:zI):zV→Value→Prop
 |.undef,v=>v.one1=true
 |.int k n,v=>v=.int k n
 |.bool b,v=>v=.bool b
 |.fsl sh t xs,v=>qB M.H (bif sh then M.G else M.F) (.sl t) xs (fun _=>some v)
 |.nsl,v=>v=.slice none 0 0
 |.nfl sh t xs,v=>(∃a n c,v=.slice (some a) n c)∧qB M.H (bif sh then M.G else M.F) (.sl t) xs (fun _=>some v)
 |.osl id r,v=>∃C,M.κ id=some C∧match r with
  |none=>wE M.H C 0 C.len v
  |some (lo,n)=>lo+n≤C.len∧wE M.H C lo n v∧NG C lo v
 |.bsl id off n,v=>∃C B,M.κ id=some C∧C.blk=some B∧v=.slice (some ⟨B,off,none⟩) n n
 |.ptr id off,v=>∃C B,M.κ id=some C∧C.blk=some B∧v=.pointer (some ⟨B,off,none⟩)
 |.eptr id i off,v=>∃C B,M.κ id=some C∧C.blk=some B∧i<C.len∧v=.pointer (some ⟨B,i*C.sz+off,none⟩)
 |.fptr sh t x off,v=>∃B o,v=.pointer (some ⟨B,o+off,none⟩)∧(bif sh then M.G else M.F) B∧qB M.H (bif sh then M.G else M.F) t x (fun j=>yH M.H B (o+j))
 |.mrow id i ver,v=>∃C,M.κ id=some C∧v.one1=true∧ver≤C.ver∧(C.ver=ver→∃rb rl,C.rows[i]? =some (rb,rl)∧kp M.H rb rl v)
 |.mptr id i,v=>∃C B,M.κ id=some C∧C.blk=some B∧i<C.len∧v=.pointer (some ⟨B,i,none⟩)
 |.meptr id i j ver,v=>∃C,M.κ id=some C∧v.one1=true∧ver≤C.ver∧(C.ver=ver→∃B rl,C.rows[i]? =some (some B,rl)∧j<rl∧v=.pointer (some ⟨B,j,none⟩))
 |.nilp,v=>v=.pointer none
 |.nilf,v=>v=.nilFunc
 |.nilm,v=>v=.map none
 |.fn f cap,v=>∃cv,v=.func (.func f) #[] cv∧zK (fun id u=>∃C B,M.κ id=some C∧C.blk=some B∧u=.pointer (some ⟨B,0,none⟩)) cap cv.toList
 |.map id,v=>∃C B,M.κ id=some C∧C.blk=some B∧v=.map (some B)
 |.str xs,v=>v=.string ⟨(lL xs).toArray⟩
theorem wE.one {H C lo n v}(h:wE H C lo n v):v.one1=true:=by
 obtain⟨A,c,rfl,_⟩:=h;rfl
theorem zQ.one {M c v}(h:zQ M c v):v.one1=true:=by
 cases c with
 |undef=>exact h
 |fsl sh t xs=>obtain⟨A,n,c,e,_⟩:=h;simp at e;rw[e];rfl
 |nfl sh t xs=>obtain⟨⟨a,n,c,e⟩,_⟩:=h;rw[e];rfl
 |osl id r=>
  obtain⟨C,_,h⟩:=h;cases r with
  |none=>exact wE.one h
  |some p=>exact wE.one h.2.1
 |bsl id off n=>obtain⟨C,B,_,_,rfl⟩:=h;rfl
 |ptr id off=>obtain⟨C,B,_,_,rfl⟩:=h;rfl
 |eptr id i off=>obtain⟨C,B,_,_,_,rfl⟩:=h;rfl
 |fptr sh t x off=>obtain⟨B,o,rfl,_⟩:=h;rfl
 |mrow id i ver=>obtain⟨C,_,h,_⟩:=h;exact h
 |mptr id i=>obtain⟨C,B,_,_,_,rfl⟩:=h;rfl
 |meptr id i j ver=>obtain⟨C,_,h,_⟩:=h;exact h
 |fn f cap=>obtain⟨cv,rfl,_⟩:=h;rfl
 |map id=>obtain⟨C,B,_,_,rfl⟩:=h;rfl
 |_=>rw[show v=_ from h];rfl
def rU (M:zI)(x:Bool×List zV)(v:Value):Prop:=match x with
 |(false,[c])=>zQ M c v
 |(true,cs)=>∃vs,v=.agg vs∧zK (zQ M) cs vs.toList
 |_=>False
def zP (M:zI):zT→Value→Prop
 |.undef,_=>True
 |.skp,v=>v=undef
 |.c x,v=>zQ M x v
 |.agg cs,v=>∃vs,v=.agg vs∧zK (zQ M) cs vs.toList
 |.tup xs,v=>∃vs,v=.tuple vs∧zK (rU M) xs vs.toList
def Obj.owned:Obj→Bool
 |.box o _=>o
 |.arr o _ _=>o
 |.robox _=>false
 |.mat _ _=>true
 |.pmat _ _ _=>true
 |.imap _=>true
 |.gone=>false
def jI (n:Int):List MapEntry→Option Value
 |[]=>none
 |e::es=>match e.key with
  |.int .i64 m=>if n=m then some e.val else jI n es
  |_=>jI n es
def yP (M:zI)(o:Obj)(C:zZ):Prop:=match o with
 |.box own cells=>∃B vals e,C.blk=some B∧C.rows=[]∧M.H[B]? =some (.cells vals e (0,0))∧zK (zQ M) cells vals.toList∧(own=false→M.G B)
 |.robox cells=>∃B vals e,C.blk=some B∧C.rows=[]∧M.H[B]? =some (.cells vals e (0,0))∧zK (zQ M) cells vals.toList∧M.F B
 | .arr own t xs => C.len = xs.length ∧ C.sz = t.size ∧ (own = true → C.rows = []) ∧ (match C.blk with
  |none=>xs=[]
  |some B=>∃vals e,M.H[B]? =some (.cells vals e (0,0))∧(own=false→M.G B)∧xs.length*t.size≤vals.size∧
    ∀i (h:i<xs.length),qB M.H M.G t xs[i] (fun j=>vals[i*t.size+j]?))
 | .mat ver xs => C.ver = ver ∧ C.len = xs.length ∧ C.sz = 1 ∧ C.rows.length = xs.length ∧ C.fp.Nodup ∧ (match C.blk with
  |none=>xs=[]
  |some B=>∃vals e,M.H[B]? =some (.cells vals e (0,0))∧xs.length≤vals.size∧
    ∀i (h:i<xs.length),∃rb v,C.rows[i]? =some (rb,xs[i].length)∧vals[i]? =some v∧kp M.H rb xs[i].length v∧
     (∀R,rb=some R→∃rv er,M.H[R]? =some (.cells rv er (0,0))∧∀j (h':j<xs[i].length),rv[j]? =some (.int .i64 xs[i][j])))
 | .pmat ver xs n => C.ver = ver ∧ C.len = n ∧ C.sz = 1 ∧ C.rows.length = xs.length ∧ C.fp.Nodup ∧ xs.length ≤ n ∧ (match C.blk with
  |none=>n=0
  |some B=>∃vals e,M.H[B]? =some (.cells vals e (0,0))∧n≤vals.size∧
    ∀i (h:i<xs.length),∃rb v,C.rows[i]? =some (rb,xs[i].length)∧vals[i]? =some v∧kp M.H rb xs[i].length v∧
     (∀R,rb=some R→∃rv er,M.H[R]? =some (.cells rv er (0,0))∧∀j (h':j<xs[i].length),rv[j]? =some (.int .i64 xs[i][j])))
 |.imap cL=>∃B es ck,C.blk=some B∧C.rows=[]∧M.H[B]? =some (.map es ck)∧(∀e∈es.toList,∃n b,e.key=.int .i64 n∧e.val=.bool b)∧
   ∀n,jI n es.toList=(cL.lookup n).map .bool
 |.gone=>True
def qJ (M:zI)(b:Nat):Prop:=∃id o C,M.h id=some o∧o.owned=true∧M.κ id=some C∧b∈C.fp
structure Ok (M:zI):Prop where
 obj:∀id o,M.h id=some o→∃C,M.κ id=some C∧yP M o C
 non:∀id,M.h id=none→M.κ id=none
 disj:∀i j oi oj Ci Cj b,i≠j→M.h i=some oi→M.h j=some oj→oi.owned=true→oj.owned=true→M.κ i=some Ci→M.κ j=some Cj→b∈Ci.fp→b∈Cj.fp→False
 own:∀b,qJ M b→¬M.F b∧b<M.H.size
 GF:∀b,M.G b→M.F b
 Flt:∀b,M.F b→b<M.H.size
structure yF (M M':zI):Prop where
 κ:∀id C,M.κ id=some C→∃C',M'.κ id=some C'∧C.le C'
 F:∀b,M.F b→M'.F b
 G:∀b,M.G b→M'.G b
 same:∀b,M.F b→M'.H[b]? =M.H[b]?
 sameG:∀b,M.G b→M'.H[b]? =M.H[b]?
 bsz:∀b,b<M.H.size→qO M'.H b=qO M.H b
theorem yYr {H b}(h:¬b<H.size):qO H b=0:=by
 unfold qO;simp_all
theorem Yn {M M'}(x:yF M M') b:qO M.H b≤qO M'.H b:=by
 by_cases h:b<M.H.size
 ·rw[x.bsz b h];omega
 ·rw[yYr h];omega
theorem wE.ext {M M'}(x:yF M M'){C C'}(le:C.le C'){lo n v}(h:wE M.H C lo n v):wE M'.H C' lo n v:=by
 obtain⟨A,c,rfl,h⟩:=h;refine⟨A,c,rfl,?_⟩;rw[le.blk];cases hb:C.blk with
 |none=>simp_all
 |some B=>
  rw[hb] at h;obtain⟨h0,a,h1,h2,h3⟩:=h;exact⟨h0,a,h1,by rw[le.sz];exact h2,by rw[le.sz];exact Nat.le_trans h3 (Yn x B)⟩
theorem kp.ext {M M'}(x:yF M M'){rb n v}(h:kp M.H rb n v):kp M'.H rb n v:=by
 cases rb with
 |none=>exact h
 |some B=>
  obtain⟨a,c,h1,h2,h3,h4⟩:=h;exact⟨a,c,h1,h2,h3,Nat.le_trans h4 (Yn x B)⟩
theorem zQ.ext {M M'}(x:yF M M'){c v}(h:zQ M c v):zQ M' c v:=by
 cases c with
 |fsl sh t xs=>
  cases sh with
  |true=>exact yR x.G x.sameG _ _ _ _ (fun _ _=>rfl) h
  |false=>exact yR x.F x.same _ _ _ _ (fun _ _=>rfl) h
 |nfl sh t xs=>
  cases sh with
  |true=>exact⟨h.1,yR x.G x.sameG _ _ _ _ (by simp) h.2⟩
  |false=>exact⟨h.1,yR x.F x.same _ _ _ _ (by simp) h.2⟩
 |osl id r=>
  obtain⟨C,hC,h⟩:=h;obtain⟨C',aw,le⟩:=x.κ id C hC;refine⟨C',aw,?_⟩;cases r with
  |none=>rw[le.len];exact wE.ext x le h
  |some p=>exact⟨by rw[le.len];omega,wE.ext x le h.2.1,by unfold NG;rw[le.len];exact h.2.2⟩
 |bsl id off n=>
  obtain⟨C,B,hC,hB,h⟩:=h;obtain⟨C',aw,le⟩:=x.κ id C hC;exact⟨C',B,aw,le.blk.trans hB,h⟩
 |ptr id off=>
  obtain⟨C,B,hC,hB,h⟩:=h;obtain⟨C',aw,le⟩:=x.κ id C hC;exact⟨C',B,aw,le.blk.trans hB,h⟩
 |eptr id i off=>
  obtain⟨C,B,hC,hB,hi,h⟩:=h;obtain⟨C',aw,le⟩:=x.κ id C hC;exact⟨C',B,aw,le.blk.trans hB,by rw[le.len];exact hi,by rw[le.sz];exact h⟩
 |fptr sh t y off=>
  obtain⟨B,o,h1,h2,h3⟩:=h;cases sh with
  |true=>exact⟨B,o,h1,x.G B h2,yR x.G x.sameG _ _ _ _ (fun j _=>NF (x.sameG B h2) _) h3⟩
  |false=>exact⟨B,o,h1,x.F B h2,yR x.F x.same _ _ _ _ (fun j _=>NF (x.same B h2) _) h3⟩
 |mrow id i ver=>
  obtain⟨C,hC,h1,hle,h⟩:=h;obtain⟨C',aw,le⟩:=x.κ id C hC;have:=le.ver;refine⟨C',aw,h1,by omega,fun e=>?_⟩;obtain⟨rb,rl,h2,h3⟩:=h (by omega);exact⟨rb,rl,by rw[le.rows (by omega)];exact h2,kp.ext x h3⟩
 |mptr id i=>
  obtain⟨C,B,hC,hB,hi,h⟩:=h;obtain⟨C',aw,le⟩:=x.κ id C hC;exact⟨C',B,aw,le.blk.trans hB,by rw[le.len];exact hi,h⟩
 |meptr id i j ver=>
  obtain⟨C,hC,h1,hle,h⟩:=h;obtain⟨C',aw,le⟩:=x.κ id C hC;have:=le.ver;refine⟨C',aw,h1,by omega,fun e=>?_⟩;obtain⟨B,rl,h2,h3⟩:=h (by omega);exact⟨B,rl,by rw[le.rows (by omega)];exact h2,h3⟩
 |fn f cap=>
  obtain⟨cv,h1,h2⟩:=h;refine⟨cv,h1,h2.mono fun id u ⟨C,B,hC,hB,hu⟩=>?_⟩;obtain⟨C',aw,le⟩:=x.κ id C hC;exact⟨C',B,aw,le.blk.trans hB,hu⟩
 |map id=>
  obtain⟨C,B,hC,hB,h⟩:=h;obtain⟨C',aw,le⟩:=x.κ id C hC;exact⟨C',B,aw,le.blk.trans hB,h⟩
 |_=>exact h
theorem rU.ext {M M'}(x:yF M M'){p v}(h:rU M p v):rU M' p v:=by
 obtain⟨b,cs⟩:=p;cases b with
 |true=>
  obtain⟨vs,h1,h2⟩:=h;exact⟨vs,h1,h2.mono fun _ _ hc=>hc.ext x⟩
 |false=>
  cases cs with
  |nil=>exact h
  |cons c cs=>cases cs with
   |nil=>exact zQ.ext (c:=c) x h
   |cons _ _=>exact h
theorem zP.ext {M M'}(x:yF M M'){a v}(h:zP M a v):zP M' a v:=by
 cases a with
 |undef=>trivial
 |skp=>exact h
 |c c=>exact zQ.ext (c:=c) x h
 |agg cs=>
  obtain⟨vs,h1,h2⟩:=h;exact⟨vs,h1,h2.mono fun _ _ hc=>hc.ext x⟩
 |tup xs=>
  obtain⟨vs,h1,h2⟩:=h;exact⟨vs,h1,h2.mono fun _ _ hc=>hc.ext x⟩
theorem yP.ext {M M'}(x:yF M M'){o C}(hb:o.owned=true→∀b∈C.fp,M'.H[b]? =M.H[b]?)(h:yP M o C):yP M' o C:=by
 cases o with
 |box own cells=>
  obtain⟨B,vals,e,h1,h2,h3,h4,h5⟩:=h;have hs:M'.H[B]? =M.H[B]? :=by
   cases own with
   |true=>exact hb rfl B (by simp[zZ.fp,h1])
   |false=>exact x.sameG B (h5 rfl)
  exact⟨B,vals,e,h1,h2,by simp_all,h4.mono fun _ _ hc=>hc.ext x,fun h=>x.G B (h5 h)⟩
 |robox cells=>
  obtain⟨B,vals,e,h1,h2,h3,h4,h5⟩:=h;exact⟨B,vals,e,h1,h2,by rw[x.same B h5];exact h3,h4.mono fun _ _ hc=>hc.ext x,x.F B h5⟩
 |arr own t xs=>
  obtain⟨h1,h2,h3,h4⟩:=h;refine⟨h1,h2,h3,?_⟩;cases hB:C.blk with
  |none=>simp_all
  |some B=>
   rw[hB] at h4;obtain⟨vals,e,h5,h6,h7,h8⟩:=h4;have hs:M'.H[B]? =M.H[B]? :=by
    cases own with
    |true=>exact hb rfl B (by simp[zZ.fp,hB])
    |false=>exact x.sameG B (h6 rfl)
   exact⟨vals,e,by simp_all,fun h=>x.G B (h6 h),h7,fun i hi=>yR x.G x.sameG _ _ _ _ (by simp) (h8 i hi)⟩
 |mat ver xs=>
  obtain⟨h1,h2,h3,h4,h5,h6⟩:=h;refine⟨h1,h2,h3,h4,h5,?_⟩;cases hB:C.blk with
  |none=>rw[hB] at h6;exact h6
  |some B=>
   rw[hB] at h6;obtain⟨vals,e,h7,h8,h9⟩:=h6;refine⟨vals,e,by rw[hb rfl B (by simp[zZ.fp,hB])];exact h7,h8,fun i hi=>?_⟩;obtain⟨rb,v,k1,k2,k3,k4⟩:=h9 i hi;refine⟨rb,v,k1,k2,k3.ext x,fun R hR=>?_⟩;obtain⟨rv,er,k5,k6⟩:=k4 R hR;refine⟨rv,er,?_,k6⟩;rw[hb rfl R ?_]
   ·exact k5
   ·simp[zZ.fp];exact by grind
 |pmat ver xs n=>
  obtain⟨h1,h2,h3,h4,h5,h0,h6⟩:=h;refine⟨h1,h2,h3,h4,h5,h0,?_⟩;cases hB:C.blk with
  |none=>simp_all
  |some B=>
   rw[hB] at h6;obtain⟨vals,e,h7,h8,h9⟩:=h6;refine⟨vals,e,by rw[hb rfl B (by simp[zZ.fp,hB])];exact h7,h8,fun i hi=>?_⟩;obtain⟨rb,v,k1,k2,k3,k4⟩:=h9 i hi;refine⟨rb,v,k1,k2,k3.ext x,fun R hR=>?_⟩;obtain⟨rv,er,k5,k6⟩:=k4 R hR;refine⟨rv,er,?_,k6⟩;rw[hb rfl R ?_]
   ·exact k5
   ·simp only[zZ.fp];grind
 |imap cL=>
  obtain⟨B,es,ck,h1,h2,h3,h4,h5⟩:=h;exact⟨B,es,ck,h1,h2,by rw[hb rfl B (by simp[zZ.fp,h1])];exact h3,h4,h5⟩
 |gone=>trivial
structure yS (M M':zI):Prop where
 ext:yF M M'
 size:M.H.size≤M'.H.size
 frame:∀b,b<M.H.size→¬qJ M b→M'.H[b]? =M.H[b]?
 own:∀b,qJ M' b→b<M.H.size→qJ M b
 Gb:∀b,M'.G b→b<M.H.size→M.G b∨qJ M b
 Fb:∀b,M'.F b→b<M.H.size→M.F b∨qJ M b
theorem yF.refl M:yF M M:=⟨fun _ C h=>⟨C,h,C.le_refl⟩,by simp,by simp,by simp,by simp,by simp⟩
theorem yS.refl M:yS M M:=⟨yF.refl M,by simp,by simp,by grind,by grind,by grind⟩
theorem yF.trans {M M' kq}(hs:M.H.size≤M'.H.size)(x:yF M M')(y:yF M' kq):yF M kq where
 κ id C h:=by
  obtain⟨C',h',le⟩:=x.κ id C h;obtain⟨C'',h'',le'⟩:=y.κ id C' h';exact⟨C'',h'',zZ.le_trans le le'⟩
 F b h:=y.F b (x.F b h)
 G b h:=y.G b (x.G b h)
 same b h:=(y.same b (x.F b h)).trans (x.same b h)
 sameG b h:=(y.sameG b (x.G b h)).trans (x.sameG b h)
 bsz b h:=(y.bsz b (by omega)).trans (x.bsz b h)
theorem yS.trans {M M' kq}(x:yS M M')(y:yS M' kq):yS M kq where
 ext:=x.ext.trans x.size y.ext
 size:=Nat.le_trans x.size y.size
 frame b h hn:=by
  have:=x.size;rw[y.frame b (by omega) fun ho=>hn (x.own b ho h),x.frame b h hn]
 own b ho h:=x.own b (y.own b ho (by have:=x.size;omega)) h
 Gb b hg h:=by
  rcases y.Gb b hg (by have:=x.size;omega) with k|k
  ·exact x.Gb b k h
  ·exact .inr (x.own b k h)
 Fb b hg h:=by
  rcases y.Fb b hg (by have:=x.size;omega) with k|k
  ·exact x.Fb b k h
  ·exact .inr (x.own b k h)
theorem Ok.build {M M'}(ok:Ok M)(x:yF M M')(T:Nat→Prop)
  (hh:∀id,¬T id→M'.h id=M.h id) (hκ:∀id,¬T id→M'.κ id=M.κ id)
  (keep:∀id o C,¬T id→M.h id=some o→o.owned=true→M.κ id=some C→∀b∈C.fp,M'.H[b]? =M.H[b]?)
  (Yo:∀id o C,¬T id→M.h id=some o→o.owned=true→M.κ id=some C→∀b∈C.fp,¬M'.F b)
  (size:M.H.size≤M'.H.size)
  (obj:∀id o,T id→M'.h id=some o→∃C,M'.κ id=some C∧yP M' o C)
  (non:∀id,T id→M'.h id=none→M'.κ id=none)
  (disj:∀id o C b,T id→M'.h id=some o→o.owned=true→M'.κ id=some C→b∈C.fp→
   (∀j oj Cj,j≠id→M'.h j=some oj→oj.owned=true→M'.κ j=some Cj→b∉Cj.fp)∧¬M'.F b∧b<M'.H.size)
  (GF:∀b,M'.G b→M'.F b) (Flt:∀b,M'.F b→b<M'.H.size):Ok M' where
 obj id o h:=by
  by_cases hT:T id
  ·exact obj id o hT h
  ·rw[hh id hT] at h;obtain⟨C,hC,hO⟩:=ok.obj id o h;exact⟨C,by rw[hκ id hT];exact hC,hO.ext x fun ho=>keep id o C hT h ho hC⟩
 non id h:=by
  by_cases hT:T id
  ·exact non id hT h
  ·rw[hκ id hT];exact ok.non id (by rw[←hh id hT];exact h)
 disj i j oi oj Ci Cj b jb hi hj hoi hoj Yp dO Eg hbj:=by
  by_cases Yq:T i
  ·grind
  ·by_cases Yr:T j
   ·grind
   ·rw[hh i Yq] at hi;rw[hh j Yr] at hj;rw[hκ i Yq] at Yp;rw[hκ j Yr] at dO;exact ok.disj i j oi oj Ci Cj b jb hi hj hoi hoj Yp dO Eg hbj
 own b hb:=by
  obtain⟨id,o,C,h,ho,hC,hb⟩:=hb;by_cases hT:T id
  ·exact(disj id o C b hT h ho hC hb).2
  ·rw[hh id hT] at h;rw[hκ id hT] at hC;have:=ok.own b ⟨id,o,C,h,ho,hC,hb⟩;grind
 GF:=GF
 Flt:=Flt
def κset (κ:Nat→Option zZ)(id:Nat)(C:zZ):Nat→Option zZ:=fun n=>if n=id then some C else κ n
theorem κset_same κ id C:κset κ id C id=some C:=by simp[κset]
theorem κset_ne κ {id n} C (h:n≠id):κset κ id C n=κ n:=by simp[κset,h]
theorem yE h id o:qX h id o id=some o:=by simp[qX]
theorem yJ h {id n} o (hn:n≠id):qX h id o n=h n:=by
 have:Nat.beq n id=false:=by
  cases hb:Nat.beq n id with
  |true=>simp_all
  |false=>rfl
 simp[qX,this]
theorem mz {H:Array Go.Obj}{o b}(h:b<H.size):(H.push o)[b]? =H[b]? :=by
 grind
theorem uu {H:Array Go.Obj}{o}:(H.push o)[H.size]? =some o:=by simp
def zI.new (M:zI)(id:Nat)(o:Obj)(C:zZ)(ob:Go.Obj):zI:={M with κ:=κset M.κ id C,h:=qX M.h id o,H:=M.H.push ob}
theorem zI.new_ext {M}(ok:Ok M){id}(ah:M.h id=none) o C ob:yF M (M.new id o C ob) where
 κ n D h:=by
  have:n≠id:=fun e=>by rw[e,ok.non id ah] at h;cases h
  exact⟨D,by simp[zI.new];rw[κset_ne _ _ this];exact h,D.le_refl⟩
 F _ h:=h
 G _ h:=h
 same b h:=mz (ok.Flt b h)
 sameG b h:=mz (ok.Flt b (ok.GF b h))
 bsz b h:=yv (mz h)
theorem zI.new_ok {M}(ok:Ok M){id}(ah:M.h id=none) o C ob (hC:∀b∈C.fp,b=M.H.size)
  (hO:yP (M.new id o C ob) o C):Ok (M.new id o C ob)∧yS M (M.new id o C ob):=by
 have x:=zI.new_ext ok ah o C ob;have df:(M.new id o C ob).H.size=M.H.size+1:=by simp[zI.new]
 have ph:∀b,qJ (M.new id o C ob) b→b=M.H.size∨qJ M b:=by
  rintro b ⟨n,q,D,h1,h2,h3,h4⟩
  by_cases e:n=id
  ·subst e;simp[zI.new,κset_same] at h1 h3;grind
  ·simp[zI.new] at h1 h3;rw[yJ _ _ e] at h1;rw[κset_ne _ _ e] at h3;exact .inr ⟨n,q,D,h1,h2,h3,h4⟩
 refine⟨ok.build x (· =id) (fun n hn=>yJ _ _ hn) (fun n hn=>κset_ne _ _ hn) ?_ ?_ (by omega) ?_ ?_ ?_ ok.GF ?_,x,by omega,?_,?_,?_,?_⟩
 ·intro n q D hn h1 h2 h3 b hb;exact mz (ok.own b ⟨n,q,D,h1,h2,h3,hb⟩).2
 ·intro n q D hn h1 h2 h3 b hb;exact(ok.own b ⟨n,q,D,h1,h2,h3,hb⟩).1
 ·rintro n q rfl h1
  simp[zI.new,yE] at h1;subst h1;exact⟨C,κset_same _ _ _,hO⟩
 ·rintro n rfl h1
  simp only[zI.new,yE] at h1;cases h1
 ·rintro n q D b rfl h1 h2 h3 hb
  simp[zI.new,κset_same] at h3;subst h3;have eb:=hC b hb;refine⟨fun j oj Cj hj k1 k2 k3 k4=>?_,fun hF=>?_,by omega⟩
  ·simp[zI.new] at k1 k3;rw[yJ _ _ hj] at k1;rw[κset_ne _ _ hj] at k3;have:=(ok.own b ⟨j,oj,Cj,k1,k2,k3,k4⟩).2;omega
  ·have:=ok.Flt b hF;omega
 ·intro b hb;have:=ok.Flt b hb;omega
 ·intro b hb _;exact mz hb
 ·grind
 ·exact fun b h _=>.inl h
 ·exact fun b h _=>.inl h
def zI.write (M:zI)(id:Nat)(o:Obj)(C:zZ)(H:Array Go.Obj):zI:={M with κ:=κset M.κ id C,h:=qX M.h id o,H:=H}
theorem zI.write_ext {M}(ok:Ok M){id o C C' H'}(ah:M.h id=some o)(aJ:o.owned=true)(hC:M.κ id=some C)
    (hle:C.le C') (hH:∀b,b∉C.fp→H'[b]? =M.H[b]?) (cC:∀b,b<M.H.size→qO H' b=qO M.H b) o':yF M (M.write id o' C' H'):=
  have rV:∀b,M.F b→b∉C.fp:=fun b hF hb=>(ok.own b ⟨id,o,C,ah,aJ,hC,hb⟩).1 hF
  { κ:=fun n D h=>by
      by_cases e:n=id
      · subst e;rw[hC] at h;cases h;exact⟨C',κset_same _ _ _,hle⟩
      · exact⟨D,by simp[zI.write];rw[κset_ne _ _ e];exact h,D.le_refl⟩
    F:=fun _ h=>h
    G:=fun _ h=>h
    same:=fun b h=>hH b (rV b h)
    sameG:=fun b h=>hH b (rV b (ok.GF b h))
    bsz:=cC}
theorem zI.write_ok {M}(ok:Ok M){id o o' C C' H'}(ah:M.h id=some o)(aJ:o.owned=true)(hC:M.κ id=some C)
  (hle:C.le C') (nF:∀b∈C'.fp,b∈C.fp) (df:H'.size=M.H.size) (hH:∀b,b∉C.fp→H'[b]? =M.H[b]?) (cC:∀b,b<M.H.size→qO H' b=qO M.H b)
  (hO:yP (M.write id o' C' H') o' C'):Ok (M.write id o' C' H')∧yS M (M.write id o' C' H'):=by
 have x:=zI.write_ext ok ah aJ hC hle hH cC o';have ph:∀b,qJ (M.write id o' C' H') b→qJ M b:=by
  rintro b ⟨n,q,D,h1,h2,h3,h4⟩
  by_cases e:n=id
  ·subst e;simp[zI.write,κset_same] at h1 h3;subst h3;exact⟨n,o,C,ah,aJ,hC,nF b h4⟩
  ·simp[zI.write] at h1 h3;rw[yJ _ _ e] at h1;rw[κset_ne _ _ e] at h3;exact⟨n,q,D,h1,h2,h3,h4⟩
 refine⟨ok.build x (· =id) (fun n hn=>yJ _ _ hn) (fun n hn=>κset_ne _ _ hn) ?_ ?_ (by simp[zI.write];omega) ?_ ?_ ?_ ok.GF ?_,x,by simp[zI.write];omega,?_,?_,?_,?_⟩
 ·intro n q D hn h1 h2 h3 b hb;exact hH b fun hc=>ok.disj n id q o D C b hn h1 ah h2 aJ h3 hC hb hc
 ·intro n q D hn h1 h2 h3 b hb;exact(ok.own b ⟨n,q,D,h1,h2,h3,hb⟩).1
 ·rintro n q rfl h1
  simp[zI.write,yE] at h1;subst h1;exact⟨C',κset_same _ _ _,hO⟩
 ·rintro n rfl h1
  simp only[zI.write,yE] at h1;cases h1
 ·rintro n q D b rfl h1 h2 h3 hb
  simp[zI.write,κset_same] at h3;subst h3;have bD:=nF b hb;have:=ok.own b ⟨n,o,C,ah,aJ,hC,bD⟩;refine⟨fun j oj Cj hj k1 k2 k3 k4=>?_,this.1,by simp[zI.write];omega⟩;simp[zI.write] at k1 k3;rw[yJ _ _ hj] at k1;rw[κset_ne _ _ hj] at k3;exact ok.disj j n oj o Cj C b hj k1 ah k2 aJ k3 hC k4 bD
 ·intro b hb;have:=ok.Flt b hb;simp[zI.write];omega
 ·intro b hb hn;exact hH b fun hc=>hn ⟨id,o,C,ah,aJ,hC,hc⟩
 ·simp_all
 ·exact fun b h _=>.inl h
 ·exact fun b h _=>.inl h
def zI.freeze (M:zI)(id:Nat)(o:Obj)(C:zZ):zI:={M with h:=qX M.h id o,F:=fun b=>M.F b∨b∈C.fp,G:=fun b=>M.G b∨b∈C.fp}
theorem zI.freeze_ok {M}(ok:Ok M){id o o' C}(ah:M.h id=some o)(aJ:o.owned=true)(hC:M.κ id=some C)
  (jc:o'.owned=false) (hO:yP (M.freeze id o' C) o' C):Ok (M.freeze id o' C)∧yS M (M.freeze id o' C):=by
 have x:yF M (M.freeze id o' C):=⟨fun _ C h=>⟨C,h,C.le_refl⟩,fun _ h=>.inl h,fun _ h=>.inl h,fun _ _=>rfl,fun _ _=>rfl,fun _ _=>rfl⟩;have Eh:∀b∈C.fp,qJ M b:=fun b hb=>⟨id,o,C,ah,aJ,hC,hb⟩
 have ph:∀b,qJ (M.freeze id o' C) b→qJ M b:=by
  rintro b ⟨n,q,D,h1,h2,h3,h4⟩
  by_cases e:n=id
  ·subst e;simp[zI.freeze,yE] at h1;simp_all
  ·simp[zI.freeze] at h1;rw[yJ _ _ e] at h1;exact⟨n,q,D,h1,h2,h3,h4⟩
 refine⟨ok.build x (· =id) (fun n hn=>yJ _ _ hn) (fun n _=>rfl) (fun _ _ _ _ _ _ _ _ _=>rfl) ?_ (Nat.le_refl _) ?_ ?_ ?_ ?_ ?_,x,Nat.le_refl _,fun _ _ _=>rfl,by grind,?_,?_⟩
 ·rintro n q D hn h1 h2 h3 b hb (hF|hF)
  ·exact(ok.own b ⟨n,q,D,h1,h2,h3,hb⟩).1 hF
  ·exact ok.disj n id q o D C b hn h1 ah h2 aJ h3 hC hb hF
 ·rintro n q rfl h1
  simp[zI.freeze,yE] at h1;subst h1;exact⟨C,hC,hO⟩
 ·rintro n rfl h1
  simp only[zI.freeze,yE] at h1;cases h1
 ·rintro n q D b rfl h1 h2 h3 hb
  simp[zI.freeze,yE] at h1;simp_all
 ·rintro b (h|h)
  ·exact .inl (ok.GF b h)
  ·exact .inr h
 ·rintro b (h|h)
  ·exact ok.Flt b h
  ·exact(ok.own b (Eh b h)).2
 ·rintro b (h|h) _
  all_goals simp_all
 ·rintro b (h|h) _
  all_goals simp_all
end Go.Ab
set_option linter.unusedSimpArgs false
namespace Go.Ab
def IP:List (Bool×zT×yV)→zT→yV→Prop
 |[],_,_=>False
 |(c,a,b)::l,v,u=>(c=true∧v=a∧u=b)∨(c=false∧IP l v u)
def yC (s:yL)(v:zT)(u:yV):Prop:=match s with
 |.alts l=>IP l v u
 |.call _ x f=>∃r,x=some r∧v=(f r).1∧u=(f r).2
 |.call2 _ _ x f g=>(∃r,x=some (.inl r)∧v=(f r).1∧u=(f r).2)∨(∃r,x=some (.inr r)∧v=(g r).1∧u=(g r).2)
theorem Ys {R K}{out:R}:∀{l},Nc K l=some out→∃v u,IP l v u∧K v u=some out
 |(c,a,b)::l,h=>by
  cases c with
  |true=>exact⟨a,b,.inl (by simp),h⟩
  |false=>
   obtain⟨v,u,h1,h2⟩:=Ys (l:=l) h;exact⟨v,u,.inr (by grind),h2⟩
theorem yL.elim_some {R s K}{out:R}(h:s.elim K=some out):∃v u,yC s v u∧K v u=some out:=by
 cases s with
 |alts l=>exact Ys h
 |call X x f=>
  simp[yL.elim,Option.bind_eq_some_iff] at h;obtain⟨r,h1,h2⟩:=h;exact⟨_,_,⟨r,h1,rfl,rfl⟩,h2⟩
 |call2 X Y x f g=>
  simp[yL.elim,Option.bind_eq_some_iff] at h;obtain⟨r,h1,h2⟩:=h;cases r with
  |inl r=>exact⟨_,_,.inl ⟨r,h1,rfl,rfl⟩,h2⟩
  |inr r=>exact⟨_,_,.inr ⟨r,h1,rfl,rfl⟩,h2⟩
theorem vP {v a u}(h:yC (.one a) v u):v=a∧u=[]:=by
 rcases h with⟨_,h1,h2⟩|⟨h,_⟩
 all_goals simp_all
theorem je {c v a u}(h:yC (.when c a) v u):c=true∧v=a∧u=[]:=by
 rcases h with h|⟨_,h⟩
 ·exact h
 ·exact h.elim
theorem eZ {c v a u b}(h:yC (.alts [(c,a,b)]) v u):c=true∧v=a∧u=b:=by
 rcases h with h|⟨_,h⟩
 ·exact h
 ·exact h.elim
theorem NH {x v u}(h:yC (.ofO x) v u):x=some v∧u=[]:=by
 cases x with
 |none=>exact h.elim
 |some a=>
  obtain⟨rfl,rfl⟩:=vP h;simp
section
variable {P:Program} (w:World)
theorem IQ {t d}(h:P.underlying t=some d):∃i,P.info? t=some i:=by
 unfold Program.underlying at h;grind
theorem NI {t i}(h:P.info? t=some i):P.cellsOf t=i.size:=by simp[Program.cellsOf,h]
theorem vFa {t i}(h:P.info? t=some i):P.bytesOf t=i.bytes:=by simp[Program.bytesOf,h]
theorem lN {t}(h:0<P.cellsOf t):∃i,P.info? t=some i:=by
 cases hi:P.info? t with
 |none=>simp[Program.cellsOf,hi] at h
 |some i=>simp
theorem NJ {t i}(h:P.info? t=some i):(typeInfo t).run P w=.ok i w:=by simp[typeInfo,h]
theorem fR {t i}(h:P.info? t=some i):(sizeOf t).run P w=.ok (P.cellsOf t) w:=by
 rw[NI h];simp[sizeOf,typeInfo,h]
theorem pj {t b}(h:wW P t=some b):(∃d,P.underlying t=some d)∧(isAgg t).run P w=.ok b w:=by
 unfold wW at h;cases hd:P.underlying t with
 |none=>simp_all
 |some d=>
  rw[hd] at h;cases d<;>simp at h<;>subst h<;>simp[isAgg,run_underlying hd]
theorem Yt {t cs}(h:zeroCells P t=some cs):∃i v,P.info? t=some i∧i.zero=some v∧v.cells.size=i.size∧v.cells.toList.all ug=true∧cs=v.cells.toList.map uf:=by
 unfold zeroCells at h;split at h
 ·rename_i i hi;split at h
  ·rename_i v hv;cases hb:(Nat.beq v.cells.size i.size&&v.cells.toList.all ug) with
   |false=>grind
   |true=>
    rw[hb] at h;simp_all
  ·cases h
 ·cases h
end
theorem vH3 {v}(h:ug v=true):v.one1=true:=by cases v<;>first|rfl|cases h
theorem uv {v:Value}(h:v.one1=true):v.oneCell'=true:=by cases v<;>first|rfl|cases h
theorem Yu M {v}(h:v.one1=true):zQ M (uf v) v:=by
 unfold uf;split<;>first|rfl|exact h
theorem IS M:∀{l},l.all ug=true→zK (zQ M) (l.map uf) l
 |[],_=>trivial
 |v::l,h=>by
  simp only[List.all_cons,Bool.and_eq_true] at h;exact⟨Yu M (vH3 h.1),IS M h.2⟩
theorem yXo M v:zP M (Nd v) v:=by
 unfold Nd;split
 ·rename_i cs;cases hb:cs.toList.all ug with
  |false=>trivial
  |true=>exact⟨cs,rfl,IS M hb⟩
 ·trivial
 ·exact Yu M (by cases v<;>first|rfl|simp_all|simp_all)
def qH (P:Program)(s:Sem Value)(M:zI)(w:World)(v:zT)(u:yV):Prop:=
 ∃rv w' M',s.run P w=.ok rv w'∧w'.os=w.os∧w'.tape=w.tape∧w'.output=w.output∧M'.H=w'.heap∧M'.h=qF M.h u∧Ok M'∧yS M M'∧zP M' v rv
theorem qH.pure {P s M w v rv}(ok:Ok M)(hM:M.H=w.heap)(h:s.run P w=.ok rv w)(hv:zP M v rv):qH P s M w v []:=
 ⟨rv,w,M,h,rfl,rfl,rfl,hM,rfl,ok,yS.refl M,hv⟩
theorem yx sh:∀t x,(cellsOf sh t x).length=t.size
 |.int _,_|.bool,_|.sl _,_=>rfl
 |.pair a b,p=>by simp[cellsOf,yx sh a,yx sh b,Ty.size]
theorem IT M sh:∀t x rd,qB M.H (bif sh then M.G else M.F) t x rd→
  ∀j h,∃v,rd j=some v∧zQ M (cellsOf sh t x)[j] v
 |.int k,n,rd,h,j,hj
 |.bool,n,rd,h,j,hj=>by
  simp[cellsOf] at hj;obtain rfl:j=0:=by omega
  exact⟨_,h,rfl⟩
 |.sl t,xs,rd,h,j,hj=>by
  simp[cellsOf] at hj;obtain rfl:j=0:=by omega
  obtain⟨A,n,c,h1,h2⟩:=h;refine⟨_,h1,?_⟩;show qB _ _ _ _ _;simp[qB];grind
 |.pair a b,p,rd,h,j,hj=>by
  simp[cellsOf,yx] at hj;by_cases bd:j<(cellsOf sh a p.1).length
  ·obtain⟨v,h1,h2⟩:=IT M sh a p.1 rd h.1 j bd;refine⟨v,h1,?_⟩;simp[cellsOf,List.getElem_append_left bd];exact h2
  ·have hY:=bd;rw[yx] at hY;obtain⟨v,h1,h2⟩:=IT M sh b p.2 _ h.2 (j-a.size) (by rw[yx];omega);refine⟨v,by grind,?_⟩;have lO:(cellsOf sh a p.1).length≤j:=by omega
   simp[cellsOf,List.getElem_append_right lO];simp[yx];exact h2
theorem Ei {cells vs off n}(h:kk cells off n=some vs):off+n≤cells.length∧vs=(cells.drop off).take n∧vs.length=n:=by
 unfold kk at h;cases hb:Nat.ble (off+n) cells.length with
 |false=>simp_all
 |true=>
  have:=Nat.le_of_ble_eq_true hb;grind
theorem NK {agg vs v}(h:nA agg vs=some v):(agg=some true∧v=.agg vs)∨(agg=some false∧∃c,vs=[c]∧v=.c c):=by
 unfold nA at h;grind
theorem Yv {P M w}(ok:Ok M)(hM:M.H=w.heap){t B o cells vs off v}
  (jg:∀j h,∃u,yH M.H B (o+j)=some u∧zQ M cells[j] u)
  (dU:kk cells off (P.cellsOf t)=some vs) (hp:nA (wW P t) vs=some v):
  ∃rv,(loadVar t ⟨B,o+off,none⟩).run P w=.ok rv w∧zP M v rv:=by
 obtain⟨h1,h2,h3⟩:=Ei dU;have cQ:∀j,j<vs.length→∃u,w.cell? ⟨B,o+off+j,none⟩=some u∧∃c,vs[j]? =some c∧zQ M c u:=by
  intro j hj;obtain⟨u,k1,k2⟩:=jg (off+j) (by omega);refine⟨u,by rw[pg,←hM,Nat.add_assoc];exact k1,cells[off+j],?_,k2⟩;grind
 rcases NK hp with⟨dC,rfl⟩|⟨dC,c,rfl,rfl⟩
 ·obtain⟨⟨d,hd⟩,hr⟩:=pj (P:=P) w dC;obtain⟨i,hi⟩:=IQ hd;have hf:∃us:List Value,us.length=vs.length∧∀j (h:j<vs.length),∃u c,us[j]? =some u∧w.cell? ⟨B,o+off+j,none⟩=some u∧vs[j]? =some c∧zQ M c u:=by
   refine⟨(List.range vs.length).map fun j=>(w.cell? ⟨B,o+off+j,none⟩).getD undef,by simp,fun j h=>?_⟩;grind
  obtain⟨us,hl,lP⟩:=hf;have kt := run_loadCells_list (P := P) w ⟨B, o + off, none⟩ us (fun j u hu=>by
   have hj:j<us.length:=by
    grind
   obtain⟨u',c,k1,k2,_⟩:=lP j (by omega);rw[hu] at k1;cases k1;rw[Addr.add_lit];exact k2)
  refine⟨.agg us.toArray,?_,?_⟩
  ·rw[hl,h3] at kt;simp[loadVar,hr,fR w hi,kt]
  ·refine⟨us.toArray,rfl,zK.of_get (by simp_all) fun j k1 k2=>?_⟩;grind
 ·obtain⟨⟨d,hd⟩,hr⟩:=pj (P:=P) w dC;obtain⟨u,k1,c',k2,k3⟩:=cQ 0 (by simp);simp at k2;subst k2;refine⟨u,?_,k3⟩;simp at k1;simp[loadVar,hr,k1]
theorem IU {P M w}(ok:Ok M)(hM:M.H=w.heap){t B o cells vs off v}
  (jg:∀j h,∃u,yH M.H B (o+j)=some u∧zQ M cells[j] u)
  (dU:kk cells off (P.cellsOf t)=some vs) (hp:nA (wW P t) vs=some v):
  qH P (loadVar t ⟨B,o+off,none⟩) M w v []:=by
 obtain⟨rv,h1,h2⟩:=Yv (w:=w) ok hM jg dU hp;exact .pure ok hM h1 h2
theorem hZ P w a:(Instr.sureAddr (.pointer (some a))).run P w=.ok a w:=rfl
theorem Yw {M own cells C}(h:yP M (.box own cells) C):∃B,C.blk=some B∧∀j h,∃u,yH M.H B (0+j)=some u∧zQ M cells[j] u:=by
 obtain⟨B,vals,e,h1,h2,h3,h4,h5⟩:=h;refine⟨B,h1,fun j hj=>?_⟩;have hl:=h4.length;have ku:j<vals.size:=by simp_all
 refine⟨vals[j],?_,?_⟩
 ·simp[yH,h3]
 ·have:=h4.get j hj (by omega);simp_all
theorem vQd {M cells C}(h:yP M (.robox cells) C):∃B,C.blk=some B∧∀j h,∃u,yH M.H B (0+j)=some u∧zQ M cells[j] u:=by
 obtain⟨B,vals,e,h1,h2,h3,h4,h5⟩:=h;refine⟨B,h1,fun j hj=>?_⟩;have hl:=h4.length;have ku:j<vals.size:=by simp_all
 refine⟨vals[j],?_,?_⟩
 ·simp[yH,h3]
 ·have:=h4.get j hj (by omega);simp_all
theorem vK9 {M own t xs C}(h:yP M (.arr own t xs) C){i}(hi:i<xs.length):∃B,C.blk=some B∧
  ∀j h,∃u,yH M.H B (i*C.sz+j)=some u∧zQ M (cellsOf true t (xs.getD i t.dflt))[j] u:=by
 obtain⟨h1,h2,h3,h4⟩:=h;cases hB:C.blk with
 |none=>simp_all
 |some B=>
  rw[hB] at h4;obtain⟨vals,e,h5,h6,h7,h8⟩:=h4;refine⟨B,rfl,fun j hj=>?_⟩;have:=IT M true t xs[i] _ (h8 i hi) j (by simp_all);obtain⟨v,k1,k2⟩:=this;refine⟨v,?_,?_⟩
  ·rw[h2];simp[yH,h5];exact k1
  simp_all
theorem IV {P t cells off v u}(h:yC (D8 P t cells off) v u):
  ∃vs,kk cells off (P.cellsOf t)=some vs∧nA (wW P t) vs=some v∧u=[]:=by
 obtain⟨h',rfl⟩:=NH h;rw[Option.bind_eq_some_iff] at h';simp_all
theorem kp.one {H rb n v}(h:kp H rb n v):v.one1=true:=by
 cases rb with
 |none=>obtain⟨rfl,_⟩:=h;rfl
 |some R=>obtain⟨a,c,rfl,_⟩:=h;rfl
theorem yy {M ver xs C}(h:yP M (.mat ver xs) C){i} hi:∃B rb v,C.blk=some B∧C.ver=ver∧
  C.rows[i]? =some (rb,xs[i].length)∧yH M.H B i=some v∧kp M.H rb xs[i].length v∧(∀R,rb=some R→∀j (h':j<xs[i].length),yH M.H R j=some (.int .i64 xs[i][j])):=by
 obtain⟨q1,q2,q3,q4,q5,q6⟩:=h;cases hB:C.blk with
 |none=>grind
 |some B=>
  rw[hB] at q6;obtain⟨vals,e,q7,q8,q9⟩:=q6;obtain⟨rb,v,k1,k2,k3,k4⟩:=q9 i hi;refine⟨B,rb,v,rfl,q1,k1,by simp[yH,q7];exact k2,k3,fun R hR j hj=>?_⟩;obtain⟨rv,er,k5,k6⟩:=k4 R hR;simp[yH];simp_all
theorem vH0 {P M w}(ok:Ok M)(hM:M.H=w.heap){t a v u ra}(ha:zP M a ra)
  (h:yC (yc P M.h t a) v u):qH P (Instr.loadAt t ra) M w v u:=by
 unfold yc at h;split at h
 ·split at h
  ·rename_i own cells ah;obtain⟨vs,h1,h2,rfl⟩:=IV h;obtain⟨C,B,hC,hB,rfl⟩:=ha;obtain⟨C',aw,hO⟩:=ok.obj _ _ ah;rw[hC] at aw;cases aw;obtain⟨B',ic,aA⟩:=Yw hO;rw[hB] at ic;cases ic;have:=IU (P:=P) ok hM (t:=t) (o:=0) aA h1 h2
   simpa[Instr.loadAt,qH,hZ] using this
  ·rename_i cells ah;obtain⟨vs,h1,h2,rfl⟩:=IV h;obtain⟨C,B,hC,hB,rfl⟩:=ha;obtain⟨C',aw,hO⟩:=ok.obj _ _ ah;rw[hC] at aw;cases aw;obtain⟨B',ic,aA⟩:=vQd hO;rw[hB] at ic;cases ic;have:=IU (P:=P) ok hM (t:=t) (o:=0) aA h1 h2
   simpa[Instr.loadAt,qH,hZ] using this
  ·exact h.elim
 ·rename_i sh ty x off;obtain⟨vs,h1,h2,rfl⟩:=IV h;obtain⟨B,o,rfl,hB,hE⟩:=ha;have:=IU (P:=P) ok hM (t:=t) (B:=B) (o:=o) (fun j hj=>IT M sh ty x _ hE j hj) h1 h2
  simpa[Instr.loadAt,qH,hZ] using this
 ·rename_i id i off;split at h
  ·rename_i own ty xs ah;obtain⟨vs,h1,h2,rfl⟩:=IV h;obtain⟨C,B,hC,hB,hi,rfl⟩:=ha;obtain⟨C',aw,hO⟩:=ok.obj _ _ ah;rw[hC] at aw;cases aw;obtain⟨B',ic,aA⟩:=vK9 hO (i:=i) (by rw[←hO.1];exact hi);rw[hB] at ic;cases ic;have:=IU (P:=P) ok hM (t:=t) aA h1 h2
   simpa[Instr.loadAt,qH,hZ] using this
  ·exact h.elim
 ·rename_i id i;split at h
  ·rename_i ver xs ah;split at h
   ·rename_i dC;obtain⟨rfl,rfl⟩:=vP h;obtain⟨C,B,hC,hB,hi,rfl⟩:=ha;obtain⟨C',aw,hO⟩:=ok.obj _ _ ah;rw[hC] at aw;cases aw;obtain⟨B',rb,x,k0,kv,k1,k2,k3,k4⟩:=yy hO (i:=i) (by rw[←hO.2.1];exact hi);rw[hB] at k0;cases k0;obtain⟨_,hr⟩:=pj (P:=P) w dC;have yH:w.cell? ⟨B,i,none⟩=some x:=by rw[pg,←hM];exact k2
    exact qH.pure ok hM (rv:=x) (by simp[Instr.loadAt,hZ,loadVar,hr,yH]) ⟨C,hC,k3.one,by omega,by grind⟩
   ·exact h.elim
  ·exact h.elim
 ·rename_i id i j ver;split at h
  ·rename_i v' xs ah;cases hv:Nat.beq v' ver with
   |false=>rw[hv] at h;exact h.elim
   |true=>
    rw[hv] at h;have hv:=Nat.eq_of_beq_eq_true hv;subst hv;split at h
    ·rename_i dC;obtain⟨rfl,rfl⟩:=vP h;obtain⟨C,hC,h1,hle,hm⟩:=ha;obtain⟨C',aw,hO⟩:=ok.obj _ _ ah;rw[hC] at aw;cases aw;obtain⟨R,rl,k1,k2,rfl⟩:=hm hO.1;have hi:i<xs.length:=by
      rw[←hO.2.2.2.1];grind
     obtain⟨B',rb,x,q0,qv,q1,q2,q3,q4⟩:=yy hO hi;rw[k1] at q1;cases q1;obtain⟨_,hr⟩:=pj (P:=P) w dC;have yH:w.cell? ⟨R,j,none⟩=some (.int .i64 xs[i][j]):=by rw[pg,←hM];exact by grind
     refine qH.pure ok hM (rv:=.int .i64 xs[i][j]) (by simp[Instr.loadAt,hZ,loadVar,hr,yH]) ?_;show _=_;simp[List.getD,hi,k2]
    ·exact h.elim
  ·exact h.elim
 ·exact h.elim
theorem iO h:∀u v,qF h (u++v)=qF (qF h u) v
 |[],_=>rfl
 |(id,o)::u,v=>iO (qX h id o) u v
theorem NL h id o:qF h [(id,o)]=qX h id o:=rfl
theorem yz {h id o}(e:h id=some o):qX h id o=h:=by
 funext n;by_cases hn:n=id
 ·subst hn;rw[yE];simp_all
 ·rw[yJ _ _ hn]
theorem NM:∀vs cells off out,uh cells off vs=some out→
  (vs=[]∨off+vs.length≤cells.length)∧out=cells.take off++vs++cells.drop (off+vs.length)
 |[],cells,off,out,h=>by
  simp[uh] at h;simp_all
 |v::vs,cells,off,out,h=>by
  unfold uh at h;cases hb:Nat.blt off cells.length with
  |false=>simp_all
  |true=>
   rw[hb] at h;have bd:off<cells.length:=Nat.le_of_ble_eq_true hb;obtain⟨h1,h2⟩:=NM vs (cells.set off v) (off+1) out h;refine⟨by grind,?_⟩;have e1:(cells.set off v).take (off+1)=cells.take off++[v]:=by
    rw[List.take_succ_eq_append_getElem (by simp_all),List.take_set_of_le (by simp)];simp
   have e2:(cells.set off v).drop (off+1+vs.length)=cells.drop (off+(v::vs).length):=by
    rw[List.drop_set_of_lt (by omega)];grind
   simp_all
theorem IW {M v rv vs}(h:lK v=some vs)(hv:zP M v rv):zK (zQ M) vs rv.cells.toList:=by
 unfold lK at h;split at h
 ·cases h;have h1:=zQ.one hv;have:rv.cells=#[rv]:=by cases rv<;>first|rfl|cases h1
  rw[this];exact⟨hv,trivial⟩
 ·cases h;obtain⟨us,rfl,h⟩:=hv;exact h
 ·cases h
theorem NN {M}:∀{vs us},zK (zQ M) vs us→∀u∈us,u.one1=true
 |[],[],_,_,h=>by cases h
 |_::_,u::us,hh,x,h=>by
  cases h with
  |head=>exact hh.1.one
  |tail _ h=>exact NN hh.2 x h
def kx (P:Program)(s:Sem Unit)(M:zI)(w:World)(u:yV):Prop:=
 ∃w' M',s.run P w=.ok () w'∧w'.os=w.os∧w'.tape=w.tape∧w'.output=w.output∧M'.H=w'.heap∧M'.h=qF M.h u∧Ok M'∧yS M M'
def yK (vals:Array Value)(off:Nat)(us:List Value):Array Value:=(vals.toList.take off++us++vals.toList.drop (off+us.length)).toArray
theorem fa {vals off us}(h:off+us.length≤vals.size):(yK vals off us).size=vals.size:=by
 simp[yK];omega
theorem wO {vals off us}(h:off+us.length≤vals.size) j:
  (yK vals off us)[j]? =if j<off then vals[j]? else if j<off+us.length then us[j-off]? else vals[j]? :=by
 simp[yK];grind
theorem lQ {w:World}{B vals new e}(h:w.heap[B]? =some (.cells vals e (0,0)))(hs:new.size=vals.size):
  (w.setRow B new).heap.size=w.heap.size∧(w.setRow B new).heap[B]? =some (.cells new e (0,0))∧(∀b,b≠B→(w.setRow B new).heap[b]? =w.heap[b]?)∧
  (∀b,qO (w.setRow B new).heap b=qO w.heap b):=by
 have h1:=setRow_heap w B vals new e (0,0) h;have h2:∀b,b≠B→(w.setRow B new).heap[b]? =w.heap[b]? :=fun b hb=>setRow_other w B b new hb
 refine⟨by simp,h1,h2,fun b=>?_⟩;by_cases hb:b=B
 ·subst hb;simp[qO,h1,h];exact hs
 ·exact yv (h2 b hb)
theorem NO {P w t B off vals e rv}(h:w.heap[B]? =some (.cells vals e (0,0)))
  (hn:rv.cells.size=P.cellsOf t) (h0:0<P.cellsOf t) (aG:off+rv.cells.size≤vals.size) (h1:∀u∈rv.cells.toList,u.one1=true):
  (storeVar t ⟨B,off,none⟩ rv).run P w=.ok () (w.setRow B (yK vals off rv.cells.toList)):=by
 obtain⟨i,hi⟩:=lN h0;have gD:=run_storeCells_at (P:=P) B off e rv.cells.toList 0 vals w h (by omega) (fun v hv=>uv (h1 v hv));have:¬rv.cells.size≠P.cellsOf t:=by omega
 simp only[storeVar,Sem.run_bind,fR w hi,Result.andThen_ok,this];exact gD
theorem NP {M M'}(x:yF M M'){cells vs vals us off}(h:zK (zQ M) cells vals.toList)(hv:zK (zQ M) vs us)
  (aG:off+us.length≤vals.size):zK (zQ M') (cells.take off++vs++cells.drop (off+vs.length)) (yK vals off us).toList:=by
 have hl:=hv.length;rw[hl];exact((h.take off).append hv|>.append (h.drop _)).mono fun _ _ hc=>hc.ext x
def wF (h0 h:Hp):Prop:=∀id,h id=h0 id∨(∃own t xs,h0 id=some (.arr own t xs)∧h id=some (.arr false t xs))∨
 (∃ver xs,h0 id=some (.mat ver xs)∧h id=some (.arr false (.sl (.int .i64)) xs))
theorem wF.refl h:wF h h:=fun _=>.inl rfl
theorem y8 {α}{xs:List α}{lo n}(h:lo+n≤xs.length):(qW xs lo n).length=n:=by
 simp[qW];omega
theorem IX {α}{xs:List α}{lo n i} h:∃h':lo+i<xs.length,(qW xs lo n)[i]=xs[lo+i]:=by
 have:lo+i<xs.length:=by simp[qW] at h;omega
 exact⟨this,by simp[qW]⟩
theorem Yx {H G C t xs lo n v}(df:C.sz=t.size)(hn:lo+n≤xs.length)(h:wE H C lo n v)
  (hx:match C.blk with
   |none=>xs=[]
   |some B=>G B∧∃vals e,H[B]? =some (.cells vals e (0,0))∧∀i h,qB H G t xs[i] (fun j=>vals[i*t.size+j]?)):
  qB H G (.sl t) (qW xs lo n) (fun _=>some v):=by
 obtain⟨A,c,rfl,h⟩:=h;cases hB:C.blk with
 |none=>
  rw[hB] at h hx;obtain⟨rfl,rfl,rfl⟩:=h;exact⟨none,0,0,rfl,by rfl,by simp,.inl ⟨by rfl,by simp⟩⟩
 |some B=>
  rw[hB] at h hx;obtain⟨hc,a,rfl,ha,aG⟩:=h;obtain⟨hG,vals,e,hv,hE⟩:=hx;have hl:=y8 hn;refine⟨_,n,c,rfl,hl.symm,hc,?_⟩;by_cases h0:n=0
  ·simp_all
  ·refine .inr ⟨B,a,rfl,hG,fun i hi=>?_⟩;obtain⟨bE,e1⟩:=IX hi;have nG:a=lo*C.sz:=by omega
   have e2:(fun j=>yH H B (a+i*t.size+j))=fun j=>vals[(lo+i)*t.size+j]? :=by
    rw[nG,df,←Nat.add_mul];simp[yH,hv]
   simp_all
theorem Yy {α}(xs:List α):qW xs 0 xs.length=xs:=by simp[qW]
theorem uw {M t xs C id r v}(hC:M.κ id=some C)(hO:yP M (.arr false t xs) C)(h:zQ M (.osl id r) v):
  qB M.H M.G (.sl t) (gC xs r) (fun _=>some v):=by
 obtain⟨h1,h2,h3,h4⟩:=hO;obtain⟨C',aw,h⟩:=h;rw[hC] at aw;cases aw;have hx:match C.blk with
   |none=>xs=[]
   |some B=>M.G B∧∃vals e,M.H[B]? =some (.cells vals e (0,0))∧∀i (h:i<xs.length),qB M.H M.G t xs[i] (fun j=>vals[i*t.size+j]?):=by
  grind
 cases r with
 |none=>
  have:=Yx (G:=M.G) h2 (lo:=0) (n:=C.len) (by omega) h hx;rw[h1,Yy] at this;exact this
 |some p=>
  obtain⟨h5,h6,_⟩:=h;exact Yx (G:=M.G) h2 (by omega) h6 hx
theorem Yz {M}(ok:Ok M){id t xs}(ah:M.h id=some (.arr true t xs)):
  ∃M',M'.H=M.H∧M'.h=qX M.h id (.arr false t xs)∧Ok M'∧yS M M'∧M'.κ=M.κ:=by
 obtain⟨C,hC,hO⟩:=ok.obj id _ ah;have pn:yP (M.freeze id (.arr false t xs) C) (.arr false t xs) C:=by
  have x:yF M (M.freeze id (.arr false t xs) C):=⟨fun _ C h=>⟨C,h,C.le_refl⟩,fun _ h=>.inl h,fun _ h=>.inl h,fun _ _=>rfl,fun _ _=>rfl,fun _ _=>rfl⟩;obtain⟨h1,h2,h3,h4⟩:=hO.ext x fun _ _ _=>rfl
  refine⟨h1,h2,by simp,?_⟩;cases hB:C.blk with
  |none=>simp_all
  |some B=>
   rw[hB] at h4;obtain⟨vals,e,h5,h6,h7,h8⟩:=h4;exact⟨vals,e,h5,fun _=>.inr (by simp[zZ.fp,hB]),h7,h8⟩
 have:=zI.freeze_ok ok ah rfl hC rfl pn;exact⟨M.freeze id _ C,rfl,rfl,this.1,this.2,rfl⟩
theorem YA {M}(ok:Ok M){id t xs}(ah:M.h id=some (.arr true t xs)):
  ∃M',M'.H=M.H∧M'.h=qX M.h id (.arr false t xs)∧Ok M'∧yS M M':=by
 obtain⟨M',h1,h2,h3,h4,_⟩:=Yz ok ah;grind
theorem YB {M}(ok:Ok M){id ver xs}(ah:M.h id=some (.mat ver xs)):
  ∃M',M'.H=M.H∧M'.h=qX M.h id (.arr false (.sl (.int .i64)) xs)∧Ok M'∧yS M M'∧M'.κ=M.κ:=by
 obtain⟨C,hC,hO⟩:=ok.obj id _ ah;have pn:yP (M.freeze id (.arr false (.sl (.int .i64)) xs) C) (.arr false (.sl (.int .i64)) xs) C:=by
  obtain⟨h1,h2,h3,h4,h5,h6⟩:=hO;refine⟨h2,h3,by simp,?_⟩;cases hB:C.blk with
  |none=>rw[hB] at h6;exact h6
  |some B=>
   rw[hB] at h6;obtain⟨vals,e,h7,h8,h9⟩:=h6;refine⟨vals,e,h7,fun _=>.inr (by simp[zZ.fp,hB]),by simpa[Ty.size] using h8,fun i hi=>?_⟩;obtain⟨rb,v,k1,k2,k3,k4⟩:=h9 i hi;simp only[qB,Ty.size,Nat.mul_one,Nat.add_zero];cases rb with
   |none=>
    obtain⟨rfl,hl⟩:=k3;grind
   |some R=>
    obtain⟨a,c,rfl,hc,ha,hs⟩:=k3;obtain⟨rv,er,k5,k6⟩:=k4 R rfl;by_cases cA:xs[i]=[]
    ·grind
    have kX:a=0:=by
     have:0<xs[i].length:=by grind
     omega
    subst kX;refine⟨_,_,c,k2,rfl,hc,.inr ⟨R,0,rfl,.inr ?_,fun j hj=>?_⟩⟩
    ·simp only[zZ.fp,List.mem_append];grind
    ·have e1:(M.freeze id (Obj.arr false (.sl (.int .i64)) xs) C).H=M.H:=rfl;simp[e1,yH,k5,Nat.zero_add];exact k6 j hj
 have:=zI.freeze_ok ok ah rfl hC rfl pn;exact⟨M.freeze id _ C,rfl,rfl,this.1,this.2,rfl⟩
theorem YC {M}(ok:Ok M){id ver xs}(ah:M.h id=some (.mat ver xs)):
  ∃M',M'.H=M.H∧M'.h=qX M.h id (.arr false (.sl (.int .i64)) xs)∧Ok M'∧yS M M':=by
 obtain⟨M',h1,h2,h3,h4,_⟩:=YB ok ah;grind
theorem Ej {M}(ok:Ok M){h0}(hf:wF h0 M.h){c c' v u}(hc:zQ M c v)(h:lM h0 c=some (c',u)):
  ∃M',M'.H=M.H∧M'.h=qF M.h u∧Ok M'∧yS M M'∧zQ M' c' v∧wF h0 M'.h∧(∀p∈u,p.2.owned=false):=by
 have aai : c' = c → u = [] → _ := fun e1 e2 => (⟨M,rfl,by rw[e2];rfl,ok,yS.refl M,by simp_all,hf,by simp[e2]⟩:
  ∃M',M'.H=M.H∧M'.h=qF M.h u∧Ok M'∧yS M M'∧zQ M' c' v∧wF h0 M'.h∧(∀p∈u,p.2.owned=false))
 cases c with
 |osl id r=>
  have key:∀(t:Ty) (xs:List t.den),(∀M',Ok M'→M'.h id=some (.arr false t xs)→zQ M' (.osl id r) v→zQ M' (.fsl true t (gC xs r)) v):=by
   intro t xs M' ie mA jh;obtain⟨C,hC,hO⟩:=ie.obj id _ mA;exact uw hC hO jh
  unfold lM at h;simp only at h;split at h
  ·rename_i own t xs jk;cases h;rcases hf id with e|⟨o2,t2,NQ,e1,e2⟩|⟨ver,NQ,e1,e2⟩
   ·rw[jk] at e;cases own with
    |true=>
     obtain⟨M',h1,h2,ie,bF⟩:=YA ok e;refine⟨M',h1,h2,ie,bF,key t xs M' ie (by rw[h2];exact yE _ _ _) (hc.ext bF.ext),fun n=>?_,by simp[Obj.owned]⟩;by_cases hn:n=id
     ·subst hn;exact .inr (.inl ⟨true,t,xs,jk,by rw[h2];exact yE _ _ _⟩)
     ·rw[h2,yJ _ _ hn];exact hf n
    |false=>exact⟨M,rfl,(yz e).symm,ok,yS.refl M,by grind,hf,by simp[Obj.owned]⟩
   ·rw[jk] at e1;cases e1;exact⟨M,rfl,(yz e2).symm,ok,yS.refl M,by grind,hf,by simp[Obj.owned]⟩
   simp_all
  ·rename_i ver xs jk;split at h
   ·cases h;rcases hf id with e|⟨o2,t2,NQ,e1,e2⟩|⟨aaj,NQ,e1,e2⟩
    ·rw[jk] at e;obtain⟨M',h1,h2,ie,bF⟩:=YC ok e;refine⟨M',h1,h2,ie,bF,key (.sl (.int .i64)) xs M' ie (by rw[h2];exact yE _ _ _) (hc.ext bF.ext),fun n=>?_,by simp[Obj.owned]⟩;by_cases hn:n=id
     ·subst hn;exact .inr (.inr ⟨ver,xs,jk,by rw[h2];exact yE _ _ _⟩)
     ·rw[h2,yJ _ _ hn];exact hf n
    ·simp_all
    ·rw[jk] at e1;cases e1;exact⟨M,rfl,(yz e2).symm,ok,yS.refl M,key (.sl (.int .i64)) xs M ok e2 hc,hf,by simp[Obj.owned]⟩
   ·cases h
  ·cases h
 |mrow _ _ _=>cases h
 |_=>cases h;simp_all
theorem NR {h0}:∀{cs aM vs u M},Ok M→wF h0 M.h→zK (zQ M) cs vs→kT h0 cs=some (aM,u)→
  ∃M',M'.H=M.H∧M'.h=qF M.h u∧Ok M'∧yS M M'∧zK (zQ M') aM vs∧wF h0 M'.h∧(∀p∈u,p.2.owned=false)
 |[],aM,[],u,M,ok,hf,_,h=>by cases h;exact⟨M,rfl,rfl,ok,yS.refl M,trivial,hf,by simp⟩
 |c::cs,aM,v::vs,u,M,ok,hf,hc,h=>by
  unfold kT at h;split at h
  ·rename_i c1 u1 ky nH e1 e2;cases h;obtain⟨M1,a1,a2,a3,a4,a5,a6,a7⟩:=Ej ok hf hc.1 e1;obtain⟨M2,b1,b2,b3,b4,b5,b6,b7⟩:=NR a3 a6 (hc.2.mono fun _ _ k=>k.ext a4.ext) e2;refine⟨M2,b1.trans a1,by rw[b2,a2,iO],b3,a4.trans b4,⟨a5.ext b4.ext,b5⟩,b6,fun p hp=>?_⟩;grind
  ·cases h
theorem iP {a b xs ys}(h:fx a b xs=some ys):∃e:a=b,e▸xs=ys:=by
 unfold fx at h;grind
theorem NS {a b}(h:Nat.blt a b=true):a<b:=Nat.le_of_ble_eq_true h
theorem vC9 {a b}(h:Nat.blt a b=false):¬a<b:=fun hh=>by
 have:Nat.blt a b=true:=Nat.ble_eq_true_of_le hh;simp_all
theorem YD {k off c n}(h:Nf k off c=some n):off=0∧c=.int k n:=by
 unfold Nf at h;split at h
 ·rename_i j m;cases hb:jW j k with
  |false=>simp_all
  |true=>
   have:=oW hb;simp_all
 ·cases h
theorem YE {off c n}(h:Ng off c=some n):off=0∧c=.bool n:=by
 unfold Ng at h;grind
theorem YF {t off c xs}(h:Nh t off c=some xs):off=0∧(c=.fsl true t xs∨(c=.nsl∧xs=[])):=by
 unfold Nh at h;split at h
 ·obtain⟨e,h⟩:=iP h;grind
 all_goals simp_all
theorem YG {a b p q off c}(h:oX (.pair a b) p off c=some q):
  (off<a.size∧oX a p.1 off c=some q.1∧q.2=p.2)∨(¬off<a.size∧oX b p.2 (off-a.size) c=some q.2∧q.1=p.1):=by
 simp[oX] at h;cases hb:Nat.blt off a.size with
 |true=>
  rw[hb] at h;split at h
  ·cases h;simp_all
  ·cases h
 |false=>
  rw[hb] at h;simp  at h;split at h
  ·rename_i x hx;cases h;exact .inr ⟨vC9 hb,hx,rfl⟩
  ·cases h
theorem YH:∀{t x y off c},oX t x off c=some y→off<t.size
 |.int k,x,y,off,c,h=>by rw[(YD h).1];simp[Ty.size]
 |.bool,x,y,off,c,h=>by rw[(YE h).1];simp[Ty.size]
 |.sl t,x,y,off,c,h=>by rw[(YF h).1];simp[Ty.size]
 |.pair a b,x,y,off,c,h=>by
  simp[Ty.size];rcases YG h with⟨h1,_⟩|⟨h1,h2,_⟩
  ·omega
  ·have:=YH h2;omega
theorem NT {M}:∀t x y off c u rd eK,qB M.H M.G t x rd→oX t x off c=some y→zQ M c u→
  eK off=some u→(∀j,j≠off→j<t.size→eK j=rd j)→qB M.H M.G t y eK
 |.int k,x,y,off,c,u,rd,eK,hE,h,hc,hr,jg=>by
  obtain⟨rfl,rfl⟩:=YD h;simp[qB];rw[hr,show u=_ from hc]
 |.bool,x,y,off,c,u,rd,eK,hE,h,hc,hr,jg=>by
  obtain⟨rfl,rfl⟩:=YE h;simp[qB];rw[hr,show u=_ from hc]
 |.sl t,x,y,off,c,u,rd,eK,hE,h,hc,hr,jg=>by
  obtain⟨rfl,rfl|⟨rfl,rfl⟩⟩:=YF h
  ·have jh:qB M.H M.G (.sl t) y (fun _=>some u):=hc;refine yR (by simp) (by simp) _ _ _ _ (fun j hj=>?_) jh;simp[Ty.size] at hj;simp_all
  ·exact⟨none,0,0,by rw[hr,show u=_ from hc],rfl,by simp,by simp⟩
 |.pair a b,x,y,off,c,u,rd,eK,hE,h,hc,hr,jg=>by
  simp[Ty.size] at jg;rcases YG h with⟨h1,h2,h3⟩|⟨h1,h2,h3⟩
  ·refine⟨NT a _ _ off c u rd eK hE.1 h2 hc hr (by grind),?_⟩;rw[h3];exact yR (by simp) (by simp) _ _ _ _ (by grind) hE.2
  ·refine⟨?_,NT b _ _ (off-a.size) c u _ _ hE.2 h2 hc (by simp_all) (by grind)⟩;rw[h3];exact yR (by simp) (by simp) _ _ _ _ (by grind) hE.1
theorem YI {t}:∀{vs x y off},oY t x off vs=some y→vs=[]∨off+vs.length≤t.size
 |[],_,_,_,_=>.inl rfl
 |v::vs,x,y,off,h=>by
  unfold oY at h;split at h
  ·rename_i z hz;have h1:=YH hz;rcases YI h with rfl|h2
   all_goals grind
  ·cases h
theorem NU {M} t:∀vs us x y off rd eK,qB M.H M.G t x rd→oY t x off vs=some y→zK (zQ M) vs us→
  (∀i,i<us.length→eK (off+i)=us[i]?)→(∀j,(j<off∨off+us.length≤j)→j<t.size→eK j=rd j)→qB M.H M.G t y eK
 |[],[],x,y,off,rd,eK,hE,h,_,_,jg=>by
  cases h;exact yR (by simp) (by simp) _ _ _ _ (by grind) hE
 |v::vs,u::us,x,y,off,rd,eK,hE,h,hc,hr,jg=>by
  unfold oY at h;split at h
  ·rename_i z hz;have h1:=NT t x z off v u rd (fun j=>if j=off then some u else rd j) hE hz hc.1 (by simp) (by grind);refine NU t vs us z y (off+1) _ eK h1 h hc.2 (fun i hi=>?_) (fun j hj rW=>?_)
   ·have:=hr (i+1) (by simp;omega);grind
   ·by_cases e:j=off
    ·have:=hr 0 (by simp);simp_all
    grind
  ·cases h
theorem YJ {i k sz j:Nat}(h:i≠k)(hj:j<sz):k*sz+j<i*sz∨i*sz+sz≤k*sz+j:=by
 rcases Nat.lt_or_gt_of_ne h with h|h
 ·have:=Nat.mul_le_mul_right sz (show i+1≤k by omega);grind
 ·have:=Nat.mul_le_mul_right sz (show k+1≤i by omega);grind
theorem vH7 {C:zZ}(hn:C.fp.Nodup){i k:Nat}{R R':Nat}{a b:Nat}(hi:C.rows[i]? =some (some R,a))(hk:C.rows[k]? =some (some R',b))(h:i≠k):R≠R':=by
 intro e;subst e;have y9:(C.rows.filterMap (·.1)).Nodup:=(List.nodup_append.1 hn).2.1;clear hn;have gen:∀(l:List (Option Nat×Nat)) (i k:Nat),i<k→l[i]? =some (some R,a)∨l[i]? =some (some R,b)→l[k]? =some (some R,b)∨l[k]? =some (some R,a)→(l.filterMap (·.1)).Nodup→False:=by
  intro l
  induction l with
  |nil=>intro i k _ h1 _ _;simp at h1
  |cons x l ih=>
   intro i k NV h1 h2 hn;obtain⟨k,rfl⟩:∃m,k=m+1:=⟨k-1,by omega⟩;have dD:R∈l.filterMap (·.1):=by
    simp only[List.getElem?_cons_succ] at h2;rcases h2 with h2|h2<;>exact List.mem_filterMap.2 ⟨_,List.mem_of_getElem? h2,rfl⟩
   cases i with
   |zero=>
    grind
   |succ i=>
    grind
 grind
theorem NW {C:zZ}(hn:C.fp.Nodup){k R B b:Nat}(hk:C.rows[k]? =some (some R,b))(hB:C.blk=some B):R≠B:=by
 intro e;subst e;have:=(List.nodup_append.1 hn).2.2 R (by simp[hB]) R (by grind);omega
theorem jR {C:zZ}{B}(h:C.blk=some B):B∈C.fp:=by simp[zZ.fp,h]
theorem vR1 {C:zZ}{k R b:Nat}(h:C.rows[k]? =some (some R,b)):R∈C.fp:=by
 simp[zZ.fp];grind
theorem NX {P M w}(ok:Ok M)(hM:M.H=w.heap){t id o o' C B off vals e rv}
  (ah:M.h id=some o) (aJ:o.owned=true) (hC:M.κ id=some C) (hB:B∈C.fp) (hb:M.H[B]? =some (.cells vals e (0,0)))
  (hn:rv.cells.size=P.cellsOf t) (h0:0<P.cellsOf t) (aG:off+rv.cells.size≤vals.size) (h1:∀u∈rv.cells.toList,u.one1=true)
  (hO:∀M',M'.κ=κset M.κ id C→M'.F=M.F→M'.G=M.G→yF M M'→M'.H[B]? =some (.cells (yK vals off rv.cells.toList) e (0,0))→(∀b,b≠B→M'.H[b]? =M.H[b]?)→yP M' o' C):
  kx P (storeVar t ⟨B,off,none⟩ rv) M w [(id,o')]:=by
 have bD:w.heap[B]? =some (.cells vals e (0,0)):=by simp_all
 have hr:=NO (P:=P) bD hn h0 aG h1;obtain⟨f1,f2,f3,f4⟩:=lQ bD (new:=yK vals off rv.cells.toList) (fa (by omega));have hH:∀b,b∉C.fp→(w.setRow B (yK vals off rv.cells.toList)).heap[b]? =M.H[b]? :=by grind
 have cC:∀b,b<M.H.size→qO (w.setRow B (yK vals off rv.cells.toList)).heap b=qO M.H b:=by grind
 have x:=zI.write_ext ok ah aJ hC C.le_refl hH cC o';have:=zI.write_ok ok ah aJ hC C.le_refl (by simp) (by rw[hM];exact f1) hH cC
  (hO (M.write id o' C _) rfl rfl rfl x f2 (fun b po=>by rw[hM];exact f3 b po))
 exact⟨_,_,hr,rfl,rfl,rfl,rfl,rfl,this.1,this.2⟩
theorem yW3 {P M w}(ok:Ok M)(hM:M.H=w.heap){t id off cells bB vs B C rv}
  (ah:M.h id=some (.box true cells)) (hC:M.κ id=some C) (hB:C.blk=some B) (dh:zK (zQ M) vs rv.cells.toList) (hn:vs.length=P.cellsOf t) (h0:0<vs.length)
  (hp:uh cells off vs=some bB):kx P (storeVar t ⟨B,off,none⟩ rv) M w [(id,.box true bB)]:=by
 obtain⟨C',aw,hO⟩:=ok.obj id _ ah;rw[hC] at aw;cases aw;obtain⟨B',vals,e,k1,k2,k3,k4,k5⟩:=hO;rw[hB] at k1;cases k1;obtain⟨p1,p2⟩:=NM vs cells off bB hp;have hl:vs.length=rv.cells.size:=by simpa using dh.length
 have aG:off+rv.cells.size≤vals.size:=by
  have:=k4.length;grind
 refine NX ok hM ah rfl hC (jR hB) k3 (by omega) (by omega) aG (NN dh) fun M' _ _ hG x h1 h2=>?_
 refine⟨B,_,e,hB,k2,h1,?_,by simp⟩;rw[p2];exact NP x k4 dh (by omega)
theorem yWa {P M w}(ok:Ok M)(hM:M.H=w.heap){t id i off ty xs x vs B C rv}
  (ah:M.h id=some (.arr true ty xs)) (hC:M.κ id=some C) (hB:C.blk=some B) (hi:i<C.len) (dh:zK (zQ M) vs rv.cells.toList) (hn:vs.length=P.cellsOf t) (h0:0<vs.length)
  (hp:oY ty (xs.getD i ty.dflt) off vs=some x):kx P (storeVar t ⟨B,i*C.sz+off,none⟩ rv) M w [(id,.arr true ty (xs.set i x))]:=by
 obtain⟨C',aw,hO⟩:=ok.obj id _ ah;rw[hC] at aw;cases aw;obtain⟨k1,k2,k3,k4⟩:=hO;rw[hB] at k4;obtain⟨vals,e,k5,k6,k7,k8⟩:=k4;have hl:vs.length=rv.cells.size:=by simpa using dh.length
 have aak:off+vs.length≤ty.size:=by
  rcases YI hp with rfl|h
  ·simp at h0
  ·exact h
 have Ek:i<xs.length:=by omega
 have e1:xs.getD i ty.dflt=xs[i]:=by simp[List.getD,Ek]
 have aU:=Nat.mul_le_mul_right ty.size (show i+1≤xs.length by omega);rw[Nat.add_mul] at aU;have aG:i*C.sz+off+rv.cells.size≤vals.size:=by rw[k2];omega
 refine NX ok hM ah rfl hC (jR hB) k5 (by omega) (by omega) aG (NN dh) fun M' _ _ hG xt h1 h2=>?_
 refine⟨by simp_all,k2,k3,?_⟩;rw[hB];refine⟨_,e,h1,by simp,by rw[List.length_set,fa (by simpa using aG)];exact k7,fun k hk=>?_⟩;rw[List.length_set] at hk;have IY:=yR (F:=M.G) (F':=M'.G) xt.G xt.sameG ty _ _ _ (fun _ _=>rfl) (k8 k hk);by_cases e2:k=i
 ·subst e2;simp;refine NU ty vs rv.cells.toList xs[k] x off _ _ IY (by rw[←e1];exact hp) (dh.mono fun _ _ h=>h.ext xt) (fun j hj=>?_) (fun j hj rW=>?_)
  ·rw[wO (by simpa using aG),if_neg (by rw[k2];omega),if_pos (by grind),k2]
   congr 1;omega
  ·rw[wO (by simpa using aG)];grind
 ·rw[List.getElem_set_ne (by grind)];refine yR (by simp) (by simp) ty _ _ _ (fun j hj=>?_) IY;rw[wO (by simpa using aG)];rw[k2];rcases YJ (Ne.symm e2) hj with h|h
  all_goals grind
theorem vBi {P M w}(ok:Ok M)(hM:M.H=w.heap){t id i j ver xs n R rl C}
  (ah:M.h id=some (.mat ver xs)) (hC:M.κ id=some C) (hR:C.rows[i]? =some (some R,rl)) (hj:j<rl) (hn:1=P.cellsOf t):
  kx P (storeVar t ⟨R,j,none⟩ (.int .i64 n)) M w [(id,.mat ver (xs.set i ((xs.getD i []).set j n)))]:=by
 obtain⟨C',aw,hO⟩:=ok.obj id _ ah;rw[hC] at aw;cases aw;obtain⟨k1,k2,k3,k4,k5,k6⟩:=hO;have hi:i<xs.length:=by
  rw[←k4];rcases Nat.lt_or_ge i C.rows.length with h|h
  ·exact h
  ·rw[List.getElem?_eq_none h] at hR;cases hR
 cases hB:C.blk with
 |none=>rw[hB] at k6;subst k6;simp at hi
 |some B=>
  rw[hB] at k6;obtain⟨vals,e,k7,k8,k9⟩:=k6;obtain⟨rb,v,q1,q2,q3,q4⟩:=k9 i hi;rw[hR] at q1;cases q1;obtain⟨rv,er,q5,q6⟩:=q4 R rfl;have hRB:R≠B:=NW k5 hR hB;have rW:j<rv.size:=by
   have:=q6 j hj;rcases Nat.lt_or_ge j rv.size with h|h
   ·exact h
   ·rw[Array.getElem?_eq_none h] at this;cases this
  have e1:xs.getD i []=xs[i]:=by simp[List.getD,hi]
  refine NX ok hM ah rfl hC (vR1 hR) q5 (by rw[←hn];rfl) (by omega) (by show j+1≤rv.size;omega) (by intro u hu;simp[Value.cells] at hu;subst hu;rfl) fun M' _ _ hG x h1 h2=>?_
  refine⟨k1,by rw[List.length_set];exact k2,k3,by rw[List.length_set];exact k4,k5,?_⟩;rw[hB];refine⟨vals,e,by rw[h2 B (Ne.symm hRB)];exact k7,by rw[List.length_set];exact k8,fun k hk=>?_⟩;rw[List.length_set] at hk;by_cases e2:k=i
  ·subst e2;simp only[List.getElem_set_self,e1,List.length_set];refine⟨some R,v,hR,q2,q3.ext x,fun R' ux=>?_⟩;cases ux;refine⟨_,er,h1,fun m hm=>?_⟩;rw[wO (by show j+1≤rv.size;omega)];show(if m<j then rv[m]? else if m<j+1 then[Value.int .i64 n][m-j]? else rv[m]?)=_;grind
  ·rw[List.getElem_set_ne (Ne.symm e2)];obtain⟨mB,v',p1,p2,p3,p4⟩:=k9 k hk;refine⟨mB,v',p1,p2,p3.ext x,fun R' ux=>?_⟩;subst ux;obtain⟨pq,El,p5,p6⟩:=p4 R' rfl;exact⟨pq,El,by rw[h2 R' (vH7 k5 p1 hR e2)];exact p5,p6⟩
theorem IZ {x}:∀(l:List (Option Nat×Nat)) i,(l.filterMap (·.1)).Nodup→(∀R,x.1=some R→R∉l.filterMap (·.1))→
  ((l.set i x).filterMap (·.1)).Nodup∧∀y∈(l.set i x).filterMap (·.1),y∈l.filterMap (·.1)∨x.1=some y
 |[],_,h,_=>by simp
 |a::l,0,h,hx=>by
  grind
 |a::l,i+1,h,hx=>by
  simp only[List.set_cons_succ];cases ha:a.1 with
  |none=>
   rw[List.filterMap_cons_none ha] at h hx⊢;rw[List.filterMap_cons_none ha];exact IZ l i h hx
  |some z=>
   rw[List.filterMap_cons_some ha] at h hx⊢;obtain⟨h1,h2⟩:=List.nodup_cons.1 h;obtain⟨k1,k2⟩:=IZ l i h2 fun R hR hm=>hx R hR (by grind)
   grind
def zI.absorb (M:zI)(id jd:Nat)(o:Obj)(C:zZ)(H:Array Go.Obj):zI:={M with κ:=κset M.κ id C,h:=qX (qX M.h jd .gone) id o,H:=H}
theorem zI.absorb_ok {M}(ok:Ok M){id jd o oj o' C Cj C' H'}(bj:id≠jd)(ah:M.h id=some o)(aJ:o.owned=true)(hC:M.κ id=some C)
    (cM:M.h jd=some oj) (rY:oj.owned=true) (dO:M.κ jd=some Cj) (hle:C.le C') (nF:∀b∈C'.fp,b∈C.fp∨b∈Cj.fp) (df:H'.size=M.H.size)
    (hH:∀b,b∉C.fp→H'[b]? =M.H[b]?) (cC:∀b,b<M.H.size→qO H' b=qO M.H b)
    (hO:yF M (M.absorb id jd o' C' H')→yP (M.absorb id jd o' C' H') o' C'):Ok (M.absorb id jd o' C' H')∧yS M (M.absorb id jd o' C' H'):=by
  have rV:∀b,M.F b→b∉C.fp:=fun b hF hb=>(ok.own b ⟨id,o,C,ah,aJ,hC,hb⟩).1 hF
  have x:yF M (M.absorb id jd o' C' H'):=
    { κ:=fun n D h=>by
        by_cases e:n=id
        · subst e;rw[hC] at h;cases h;exact⟨C',κset_same _ _ _,hle⟩
        · exact⟨D,by simp only[zI.absorb];rw[κset_ne _ _ e];exact h,D.le_refl⟩
      F:=fun _ h=>h
      G:=fun _ h=>h
      same:=fun b h=>hH b (rV b h)
      sameG:=fun b h=>hH b (rV b (ok.GF b h))
      bsz:=cC}
  have bD:∀b∈C'.fp,qJ M b:=fun b hb=>by
    rcases nF b hb with hb|hb
    · exact⟨id,o,C,ah,aJ,hC,hb⟩
    · exact⟨jd,oj,Cj,cM,rY,dO,hb⟩
  have cQ:∀n q,n≠id→(M.absorb id jd o' C' H').h n=some q→q.owned=true→n≠jd∧M.h n=some q:=by
    intro n q e h1 h2;simp only[zI.absorb] at h1;rw[yJ _ _ e] at h1;by_cases e':n=jd
    · subst e';rw[yE] at h1;cases h1;cases h2
    · rw[yJ _ _ e'] at h1;simp_all
  have ph:∀b,qJ (M.absorb id jd o' C' H') b→qJ M b:=by
    rintro b ⟨n,q,D,h1,h2,h3,h4⟩
    by_cases e:n=id
    · subst e;simp only[zI.absorb,κset_same,Option.some.injEq] at h3;simp_all
    · obtain⟨e',eL⟩:=cQ n q e h1 h2;simp only[zI.absorb] at h3;rw[κset_ne _ _ e] at h3;exact⟨n,q,D,eL,h2,h3,h4⟩
  refine⟨ok.build x (fun n=>n=id∨n=jd) (fun n hn=>?_) (fun n hn=>κset_ne _ _ (by grind)) ?_ ?_ (by simp only[zI.absorb];omega) ?_ ?_ ?_ ok.GF ?_,x,by simp only[zI.absorb];omega,?_,by grind,fun b h _=>.inl h,fun b h _=>.inl h⟩
  · simp only[zI.absorb];rw[yJ _ _ (by grind),yJ _ _ (by grind)]
  · intro n q D hn h1 h2 h3 b hb;exact hH b fun hc=>ok.disj n id q o D C b (by grind) h1 ah h2 aJ h3 hC hb hc
  · intro n q D hn h1 h2 h3 b hb;exact(ok.own b ⟨n,q,D,h1,h2,h3,hb⟩).1
  · rintro n q (rfl|rfl) h1
    · simp only[zI.absorb,yE,Option.some.injEq] at h1;subst h1;exact⟨C',κset_same _ _ _,hO x⟩
    · simp only[zI.absorb] at h1;rw[yJ _ _ (Ne.symm bj),yE] at h1;cases h1;exact⟨Cj,by simp only[zI.absorb];rw[κset_ne _ _ (by grind)];omega,trivial⟩
  · rintro n (rfl|rfl) h1
    · simp only[zI.absorb,yE] at h1;cases h1
    · simp only[zI.absorb] at h1;rw[yJ _ _ (by grind),yE] at h1;cases h1
  · rintro n q D b (rfl|rfl) h1 h2 h3 hb
    · simp only[zI.absorb,κset_same,Option.some.injEq] at h3;subst h3;have hbo:=ok.own b (bD b hb);refine⟨fun j qj Dj hj k1 k2 k3 k4=>?_,hbo.1,by simp only[zI.absorb];omega⟩;obtain⟨NY,za⟩:=cQ j qj hj k1 k2;simp only[zI.absorb] at k3;rw[κset_ne _ _ hj] at k3;rcases nF b hb with hb|hb
      · exact ok.disj j n qj o Dj C b hj za ah k2 aJ k3 hC k4 hb
      · exact ok.disj j jd qj oj Dj Cj b NY za cM k2 rY k3 dO k4 hb
    grind
  · intro b hb;have:=ok.Flt b hb;simp only[zI.absorb];omega
  · intro b hb hn;exact hH b fun hc=>hn ⟨id,o,C,ah,aJ,hC,hc⟩
theorem Em {M t xs C}(h:yP M (.arr true t xs) C):C.rows=[]∧C.fp=C.blk.toList:=by
 have:=h.2.2.1 rfl;exact⟨this,by simp[zZ.fp,this]⟩
theorem NZ {M}{ys:List Int}{C jd v}(hC:M.κ jd=some C)(hO:yP M (.arr true (.int .i64) ys) C)(hv:zQ M (.osl jd none) v):
  kp M.H C.blk ys.length v∧∀R,C.blk=some R→∃rv er,M.H[R]? =some (.cells rv er (0,0))∧∀j (h':j<ys.length),rv[j]? =some (.int .i64 ys[j]):=by
 obtain⟨h1,h2,h3,h4⟩:=hO;obtain⟨C',aw,A,c,rfl,h⟩:=hv;rw[hC] at aw;cases aw;cases hB:C.blk with
 |none=>
  rw[hB] at h;obtain⟨rfl,e,rfl⟩:=h;exact⟨⟨by rw[e],by omega⟩,by simp⟩
 |some B=>
  rw[hB] at h h4;obtain⟨hc,a,rfl,ha,hs⟩:=h;obtain⟨vals,e,h5,h6,h7,h8⟩:=h4;refine⟨⟨a,c,by rw[h1],by omega,by omega,by simpa[h2,Ty.size] using hs⟩,fun R hR=>?_⟩;cases hR;refine⟨vals,e,h5,fun j hj=>?_⟩;have:=h8 j hj
  simpa[qB,Ty.size] using this
theorem vEz {P M w}(ok:Ok M)(hM:M.H=w.heap){t id jd i ver xs}{ys:List Int}{B C rv}
  (ah:M.h id=some (.mat ver xs)) (hC:M.κ id=some C) (hB:C.blk=some B) (hi:i<C.len) (cM:M.h jd=some (.arr true (.int .i64) ys)) (hv:zQ M (.osl jd none) rv) (hn:1=P.cellsOf t):
  kx P (storeVar t ⟨B,i,none⟩ rv) M w [(jd,.gone),(id,.mat (ver+1) (xs.set i ys))]:=by
 obtain⟨C',aw,hO⟩:=ok.obj id _ ah;rw[hC] at aw;cases aw;obtain⟨Cj,dO,kY⟩:=ok.obj jd _ cM;obtain⟨jr,jf⟩:=Em kY;have bj:id≠jd:=fun e=>by rw[e,cM] at ah;cases ah
 obtain⟨r1,r2⟩:=NZ dO kY hv;obtain⟨k1,k2,k3,k4,k5,k6⟩:=hO;rw[hB] at k6;obtain⟨vals,e,k7,k8,k9⟩:=k6;have bD:w.heap[B]? =some (.cells vals e (0,0)):=by rw[←hM];exact k7
 have cc:=hv.one;have aA:rv.cells=#[rv]:=by cases rv<;>first|rfl|cases cc
 have aG:i+rv.cells.size≤vals.size:=by rw[aA];show i+1≤vals.size;omega
 have dp:i+rv.cells.toList.length≤vals.size:=by rw[Array.length_toList];exact aG
 have hr:=NO (P:=P) (t:=t) (off:=i) (rv:=rv) bD (by rw[aA];exact hn) (by omega) aG (by intro u hu;rw[aA] at hu;simp at hu;subst hu;exact cc);obtain⟨f1,f2,f3,f4⟩:=lQ bD (new:=yK vals i rv.cells.toList) (fa dp);have dE:∀R,Cj.blk=some R→R∉C.fp:=fun R hR hm=>ok.disj id jd _ _ C Cj R bj ah cM rfl rfl hC dO hm (jR hR)
 have di:=List.nodup_append.1 k5;obtain⟨s1,s2⟩:=IZ (x:=(Cj.blk,ys.length)) C.rows i di.2.1 (fun R hR hm=>dE R hR (by simp only[zZ.fp,List.mem_append];exact .inr hm));let D:zZ:={C with ver:=ver+1,rows:=C.rows.set i (Cj.blk,ys.length)};have uy:∀b∈D.fp,b∈C.fp∨b∈Cj.fp:=fun b hb=>by
  simp only[zZ.fp,List.mem_append] at hb;rcases hb with hb|hb
  ·exact .inl (by simp only[zZ.fp,List.mem_append];exact .inl hb)
  ·rcases s2 b hb with hb|hb
   ·exact .inl (by simp only[zZ.fp,List.mem_append];exact .inr hb)
   ·exact .inr (jR hb)
 have uz:D.fp.Nodup:=by
  refine List.nodup_append.2 ⟨di.1,s1,fun a ha b hb e=>?_⟩;subst e;rcases s2 a hb with hb|hb
  ·exact di.2.2 a ha a hb rfl
  ·exact dE a hb (by simp only[zZ.fp,List.mem_append];exact .inl ha)
 have:=zI.absorb_ok (H':=(w.setRow B (yK vals i rv.cells.toList)).heap) (o':=.mat (ver+1) (xs.set i ys)) (C':=D) ok bj ah rfl hC cM rfl dO ⟨rfl,rfl,rfl,by show C.ver≤ver+1;omega,by grind⟩ uy
  (by rw [hM]; exact f1) (fun b po => by rw [hM]; exact f3 b fun e => po (e ▸ jR hB)) (fun b _ => by rw [hM]; exact f4 b) (fun x=>by
   refine⟨rfl,by rw[List.length_set];exact k2,k3,by simp only[D,List.length_set];exact k4,uz,?_⟩;have N0:D.blk=some B:=hB;rw[N0];refine⟨_,e,f2,by rw[List.length_set,fa dp];exact k8,fun k hk=>?_⟩;rw[List.length_set] at hk;by_cases e2:k=i
   ·subst e2;simp only[List.getElem_set_self];refine⟨Cj.blk,rv,?_,?_,r1.ext x,fun R hR=>?_⟩
    ·simp only[D];rw[List.getElem?_set_self (by omega)]
    ·rw[wO dp,if_neg (by omega),if_pos (by rw[aA];show k<k+1;omega),aA];simp
    ·obtain⟨pq,er,q5,q6⟩:=r2 R hR;refine⟨pq,er,?_,q6⟩;have:R≠B:=fun e=>dE R hR (e▸jR hB)
     show(w.setRow B _).heap[R]? =_;rw[f3 R this,←hM];exact q5
   ·rw[List.getElem_set_ne (Ne.symm e2)];obtain⟨mB,v',p1,p2,p3,p4⟩:=k9 k hk;refine⟨mB,v',?_,?_,p3.ext x,fun R' ux=>?_⟩
    ·simp only[D];rw[List.getElem?_set_ne (Ne.symm e2)];exact p1
    ·rw[wO dp,aA];show(if k<i then vals[k]? else if k<i+1 then _ else vals[k]?)=_;split
     ·exact p2
     ·rw[if_neg (by omega)];exact p2
    ·subst ux;obtain⟨pq,El,p5,p6⟩:=p4 R' rfl;refine⟨pq,El,?_,p6⟩;have:R'≠B:=NW k5 p1 hB;show(w.setRow B _).heap[R']? =_;rw[f3 R' this,←hM];exact p5)
 exact⟨_,_,hr,rfl,rfl,rfl,rfl,rfl,this.1,this.2⟩
theorem vJc {P M w}(ok:Ok M)(hM:M.H=w.heap){t id jd ver n xs}{ys:List Int}{B C rv}
  (ah:M.h id=some (.pmat ver xs n)) (hC:M.κ id=some C) (hB:C.blk=some B) (hi:xs.length<C.len) (cM:M.h jd=some (.arr true (.int .i64) ys)) (hv:zQ M (.osl jd none) rv) (hn:1=P.cellsOf t):
  kx P (storeVar t ⟨B,xs.length,none⟩ rv) M w [(jd,.gone),(id,.pmat (ver+1) (xs++[ys]) n)]:=by
 obtain⟨C',aw,hO⟩:=ok.obj id _ ah;rw[hC] at aw;cases aw;obtain⟨Cj,dO,kY⟩:=ok.obj jd _ cM;obtain⟨jr,jf⟩:=Em kY;have bj:id≠jd:=fun e=>by rw[e,cM] at ah;cases ah
 obtain⟨r1,r2⟩:=NZ dO kY hv;obtain⟨k1,k2,k3,k4,k5,k0,k6⟩:=hO;rw[hB] at k6;obtain⟨vals,e,k7,k8,k9⟩:=k6;have bD:w.heap[B]? =some (.cells vals e (0,0)):=by rw[←hM];exact k7
 have cc:=hv.one;have aA:rv.cells=#[rv]:=by cases rv<;>first|rfl|cases cc
 have aG:xs.length+rv.cells.size≤vals.size:=by rw[aA];show xs.length+1≤vals.size;omega
 have dp:xs.length+rv.cells.toList.length≤vals.size:=by rw[Array.length_toList];exact aG
 have hr:=NO (P:=P) (t:=t) (off:=xs.length) (rv:=rv) bD (by rw[aA];exact hn) (by omega) aG (by intro u hu;rw[aA] at hu;simp at hu;subst hu;exact cc);obtain⟨f1,f2,f3,f4⟩:=lQ bD (new:=yK vals xs.length rv.cells.toList) (fa dp);have dE:∀R,Cj.blk=some R→R∉C.fp:=fun R hR hm=>ok.disj id jd _ _ C Cj R bj ah cM rfl rfl hC dO hm (jR hR)
 have di:=List.nodup_append.1 k5;have N1:(C.rows++[(Cj.blk,ys.length)]).filterMap (·.1)=C.rows.filterMap (·.1)++Cj.blk.toList:=by
  rw[List.filterMap_append];cases Cj.blk<;>simp
 have s1:((C.rows++[(Cj.blk,ys.length)]).filterMap (·.1)).Nodup:=by
  rw[N1];refine List.nodup_append.2 ⟨di.2.1,by cases Cj.blk<;>simp,fun x hx y hy e=>?_⟩;subst e;have:Cj.blk=some x:=by simpa using hy
  exact dE x this (by simp only[zZ.fp,List.mem_append];exact .inr hx)
 have s2:∀y∈(C.rows++[(Cj.blk,ys.length)]).filterMap (·.1),y∈C.rows.filterMap (·.1)∨Cj.blk=some y:=by simp
 let D:zZ:={C with ver:=ver+1,rows:=C.rows++[(Cj.blk,ys.length)]};have uy:∀b∈D.fp,b∈C.fp∨b∈Cj.fp:=fun b hb=>by
  simp only[zZ.fp,List.mem_append] at hb;rcases hb with hb|hb
  ·exact .inl (by simp only[zZ.fp,List.mem_append];exact .inl hb)
  ·rcases s2 b hb with hb|hb
   ·exact .inl (by simp only[zZ.fp,List.mem_append];exact .inr hb)
   ·exact .inr (jR hb)
 have uz:D.fp.Nodup:=by
  refine List.nodup_append.2 ⟨di.1,s1,fun a ha b hb e=>?_⟩;subst e;rcases s2 a hb with hb|hb
  ·exact di.2.2 a ha a hb rfl
  ·exact dE a hb (by simp only[zZ.fp,List.mem_append];exact .inl ha)
 have:=zI.absorb_ok (H':=(w.setRow B (yK vals xs.length rv.cells.toList)).heap) (o':=.pmat (ver+1) (xs++[ys]) n) (C':=D) ok bj ah rfl hC cM rfl dO ⟨rfl,rfl,rfl,by show C.ver≤ver+1;omega,fun e=>by have:ver+1=C.ver:=e;omega⟩ uy
  (by rw [hM]; exact f1) (fun b po => by rw [hM]; exact f3 b fun e => po (e ▸ jR hB)) (fun b _ => by rw [hM]; exact f4 b) (fun x=>by
   refine⟨rfl,k2,k3,by simp only[D,List.length_append,k4];rfl,uz,by simp;omega,?_⟩;have N0:D.blk=some B:=hB;rw[N0];refine⟨_,e,f2,by rw[fa dp];exact k8,fun k hk=>?_⟩;rw[List.length_append,List.length_singleton] at hk;by_cases e2:k=xs.length
   ·subst e2;simp only[List.getElem_concat_length];refine⟨Cj.blk,rv,?_,?_,r1.ext x,fun R hR=>?_⟩
    ·simp only[D];rw[List.getElem?_append_right (by omega),k4];simp
    ·rw[wO dp,if_neg (by omega),if_pos (by rw[aA];show xs.length<xs.length+1;omega),aA];simp
    ·obtain⟨pq,er,q5,q6⟩:=r2 R hR;refine⟨pq,er,?_,q6⟩;have:R≠B:=fun e=>dE R hR (e▸jR hB)
     show(w.setRow B _).heap[R]? =_;rw[f3 R this,←hM];exact q5
   ·have I1:k<xs.length:=by omega
    rw[List.getElem_append_left I1];obtain⟨mB,v',p1,p2,p3,p4⟩:=k9 k I1;refine⟨mB,v',?_,?_,p3.ext x,fun R' ux=>?_⟩
    ·simp only[D];rw[List.getElem?_append_left (by omega)];exact p1
    ·rw[wO dp,aA];rw[if_pos I1];exact p2
    ·subst ux;obtain⟨pq,El,p5,p6⟩:=p4 R' rfl;refine⟨pq,El,?_,p6⟩;have:R'≠B:=NW k5 p1 hB;show(w.setRow B _).heap[R']? =_;rw[f3 R' this,←hM];exact p5)
 exact⟨_,_,hr,rfl,rfl,rfl,rfl,rfl,this.1,this.2⟩
theorem I2 h {n}:∀{u},(u.any fun p=>Nat.beq p.1 n)=false→qF h u n=h n
 |[],_=>rfl
 |(id,o)::u,hu=>by
  simp only[List.any_cons,Bool.or_eq_false_iff] at hu;have:n≠id:=fun e=>by simp_all
  show qF (qX h id o) u n=h n;rw[I2 (qX h id o) hu.2,yJ _ _ this]
theorem vFx {P M w}(ok:Ok M)(hM:M.H=w.heap){t a v r u ra rv}(ha:zP M a ra)(hv:zP M v rv)
  (h:yC (yd P M.h t a v) r u):r=.undef∧kx P (Instr.storeAt t ra rv) M w u:=by
 unfold yd at h;split at h
 ·exact h.elim
 ·rename_i vs dh;have cT:=IW dh hv;cases hb:(Nat.beq vs.length (P.cellsOf t)&&Nat.blt 0 vs.length) with
  |false=>rw[hb] at h;exact h.elim
  |true=>
   rw[hb] at h;simp only[Bool.and_eq_true] at hb;have hn:=Nat.eq_of_beq_eq_true hb.1;have h0:=NS hb.2;split at h
   ·split at h
    ·rename_i cells ah;split at h
     ·rename_i bB hp;obtain⟨_,rfl,rfl⟩:=eZ h;obtain⟨C,B,hC,hB,rfl⟩:=ha;have:=yW3 (P:=P) ok hM (t:=t) ah hC hB cT hn h0 hp
      simpa[Instr.storeAt,kx,hZ] using this
     ·exact h.elim
    ·exact h.elim
   ·rename_i id i off;split at h
    ·rename_i ty xs N2 u' ah zb;split at h
     ·rename_i x hp;cases hu:(u'.any fun p=>Nat.beq p.1 id) with
      |true=>rw[hu] at h;exact h.elim
      |false=>
      rw[hu] at h;obtain⟨_,rfl,rfl⟩:=eZ h;refine⟨rfl,?_⟩;obtain⟨M1,a1,a2,a3,a4,a5,a6,a7⟩:=NR ok (wF.refl _) cT zb;obtain⟨C,B,hC,hB,hi,hra⟩:=zQ.ext (c:=.eptr id i off) a4.ext ha;have mC:M1.h id=some (.arr true ty xs):=by rw[a2,I2 M.h hu];exact ah
      have pt:=a5.length;have kZ:=cT.length;obtain⟨w',M',b1,b2,b3,b4,b5,b6,b7,b8⟩:=yWa (P:=P) a3 (a1.trans hM) (t:=t) mC hC hB hi a5 (by omega) (by omega) hp;subst hra;exact⟨w',M',by simpa[Instr.storeAt,hZ] using b1,b2,b3,b4,b5,by rw[b6,a2,iO],b7,a4.trans b8⟩
     ·exact h.elim
    ·exact h.elim
   ·split at h
    ·rename_i ver xs jd ah;split at h
     ·rename_i ys cM;obtain⟨_,rfl,rfl⟩:=eZ h;obtain⟨C,B,hC,hB,hi,rfl⟩:=ha;have:=vEz (P:=P) ok hM (t:=t) ah hC hB hi cM hv (by cases dh;exact hn)
      simpa[Instr.storeAt,kx,hZ] using this
     ·exact h.elim
    ·rename_i ver xs n jd ah;split at h
     ·rename_i ys cM;obtain⟨Ek,rfl,rfl⟩:=eZ h;obtain⟨C,B,hC,hB,hi,rfl⟩:=ha;have Ek:=Nat.eq_of_beq_eq_true Ek;subst Ek;have:=vJc (P:=P) ok hM (t:=t) ah hC hB hi cM hv (by cases dh;exact hn)
      simpa[Instr.storeAt,kx,hZ] using this
     ·exact h.elim
    ·exact h.elim
   ·rename_i id i j ver;split at h
    ·rename_i v' xs n ah;cases fS:Nat.beq v' ver with
     |false=>rw[fS] at h;exact h.elim
     |true=>
     rw[fS] at h;have e:=Nat.eq_of_beq_eq_true fS;subst e;obtain⟨_,rfl,rfl⟩:=eZ h;obtain⟨C,hC,h1,hle,hm⟩:=ha;obtain⟨C',aw,hO⟩:=ok.obj _ _ ah;rw[hC] at aw;cases aw;obtain⟨R,rl,k1,k2,rfl⟩:=hm hO.1;have mD:rv=.int .i64 n:=hv;subst mD;have:=vBi (P:=P) ok hM (t:=t) (n:=n) ah hC k1 k2 (by cases dh;exact hn)
     simpa[Instr.storeAt,kx,hZ] using this
    ·exact h.elim
   ·exact h.elim
theorem eM {c s v u}(h:yC (bif c then s else .stuck) v u):c=true∧yC s v u:=by
 cases c with
 |true=>simp_all
 |false=>exact h.elim
theorem I3 {c s v u}(h:yC (bif c then .stuck else s) v u):c=false∧yC s v u:=by
 cases c with
 |false=>simp_all
 |true=>exact h.elim
theorem I4 {a b:Nat}(h:Nat.beq a b=false):a≠b:=fun e=>by simp_all
theorem zc {i n}(h:zC i n=true):0≤i∧i<n∧i.toNat<n:=by
 simp[zC] at h;omega
theorem En {i mk}:∀{n j v u},IP (ya i mk j n) v u→∃k,j≤k∧k<j+n∧i=(k:Int)∧v=.c (mk k)∧u=[]
 |n+1,j,v,u,h=>by
  rcases h with⟨h1,h2,h3⟩|⟨_,h⟩
  ·grind
  ·obtain⟨k,k1,k2,k3⟩:=En h;grind
theorem vPv {P M w}(ok:Ok M)(hM:M.H=w.heap){s a v f u ra}(ha:zP M a ra)
  (h:yC (No P s a f) v u):qH P (Instr.fieldAt s ra f) M w v u:=by
 unfold No at h;split at h
 ·rename_i fs hs;split at h
  ·rename_i fd hf;obtain⟨hz,h⟩:=I3 h;have hz:=I4 hz;obtain⟨i,hi⟩:=lN (P:=P) (t:=fd.type) (by omega);have hr:∀B o,(Instr.fieldAt s (.pointer (some ⟨B,o,none⟩)) f).run P w=.ok (.pointer (some ⟨B,o+fd.offset,none⟩)) w:=by
    simp[Instr.fieldAt,run_underlying hs,hf,hZ,fieldPlace,fR w hi,hz,Addr.add_lit]
   split at h
   ·obtain⟨rfl,rfl⟩:=vP h;obtain⟨C,B,hC,hB,rfl⟩:=ha;exact qH.pure ok hM (hr _ _) ⟨C,B,hC,hB,rfl⟩
   ·obtain⟨rfl,rfl⟩:=vP h;obtain⟨C,B,hC,hB,hi,rfl⟩:=ha;exact qH.pure ok hM (hr _ _) ⟨C,B,hC,hB,hi,by grind⟩
   ·obtain⟨rfl,rfl⟩:=vP h;obtain⟨B,o,rfl,hB,hE⟩:=ha;exact qH.pure ok hM (hr _ _) ⟨B,o,by grind,hB,hE⟩
   ·exact h.elim
  ·exact h.elim
 ·exact h.elim
theorem Eo {P w t e A}{n c:Nat}{k}{i:Int}{B o}(hu:P.underlying t=some (.slice e))(h0:0≤i)(h1:i<n)(he:0<P.cellsOf e)
  (hA:A=some ⟨B,o,none⟩):(Instr.indexAt t (.slice A n c) (.int k i)).run P w=.ok (.pointer (some ⟨B,o+i.toNat*P.cellsOf e,none⟩)) w:=by
 obtain⟨x,hx⟩:=lN he;subst hA;simp[Instr.indexAt,asIntOf,run_underlying hu,h0,h1,fR w hx,Addr.add_lit]
theorem vR4 {P M w}(ok:Ok M)(hM:M.H=w.heap){t x i v u rx ri}(hx:zP M x rx)(hi:zP M i ri)
  (h:yC (ye P M.h t x i) v u):qH P (Instr.indexAt t rx ri) M w v u:=by
 unfold ye at h;split at h
 ·rename_i e c k n hu;have jl:ri=.int k n:=hi;subst jl;split at h
  ·rename_i sh ty xs;obtain⟨hz,h⟩:=eM h;have hz:=Nat.eq_of_beq_eq_true hz;obtain⟨hb,rfl,rfl⟩:=je h;obtain⟨b0,b1,b2⟩:=zc hb;have mE:qB M.H (bif sh then M.G else M.F) (.sl ty) xs (fun _=>some rx):=hx;simp only[qB,Option.some.injEq] at mE;obtain⟨A,m,c,rfl,rfl,hc,mE⟩:=mE;rcases mE with⟨rfl,_⟩|⟨B,o,rfl,hB,hE⟩
   ·simp at b2
   ·refine qH.pure ok hM (Eo hu b0 b1 (by rw[hz];exact ty.size_pos) rfl) ⟨B,o+n.toNat*P.cellsOf e,rfl,hB,?_⟩;have e1:xs.getD n.toNat ty.dflt=xs[n.toNat]:=by simp[List.getD,b2]
    rw[e1,hz];exact hE _ b2
  ·rename_i id r;split at h
   ·rename_i own ty xs ah;obtain⟨hz,h⟩:=eM h;have hz:=Nat.eq_of_beq_eq_true hz;obtain⟨C,hC,hS⟩:=hx;obtain⟨C',aw,hO⟩:=ok.obj _ _ ah;rw[hC] at aw;cases aw;have hlen:=hO.1;have df:=hO.2.1;have key:∀lo m,lo+m≤C.len→wE M.H C lo m rx→0≤n→n<(m:Int)→∃B,C.blk=some B∧(Instr.indexAt t rx (.int k n)).run P w=.ok (.pointer (some ⟨B,(lo+n.toNat)*C.sz+0,none⟩)) w:=by
     intro lo m hm lR n0 n1;clear hS;obtain⟨A,c,rfl,hS⟩:=lR;cases hB:C.blk with
     |none=>rw[hB] at hS;obtain⟨_,rfl,_⟩:=hS;omega
     |some B=>
      rw[hB] at hS;obtain⟨hc,a,hA,ha,_⟩:=hS;refine⟨B,rfl,?_⟩;rw[Eo hu n0 n1 (by rw[hz];exact ty.size_pos) hA];have:a=lo*C.sz:=by rcases ha with ha|ha<;>omega
      rw[this,hz,df,Nat.add_mul];rfl
    split at h
    ·obtain⟨hb,rfl,rfl⟩:=je h;obtain⟨b0,b1,b2⟩:=zc hb;obtain⟨B,hB,hr⟩:=key 0 C.len (by omega) hS b0 (by omega);rw[Nat.zero_add] at hr;exact qH.pure ok hM hr ⟨C,B,hC,hB,by omega,rfl⟩
    ·obtain⟨hb,rfl,rfl⟩:=je h;obtain⟨b0,b1,b2⟩:=zc hb;obtain⟨B,hB,hr⟩:=key _ _ hS.1 hS.2.1 b0 b1;exact qH.pure ok hM hr ⟨C,B,hC,hB,by have:=hS.1;omega,rfl⟩
   ·rename_i ver xs ah;obtain⟨hz,h⟩:=eM h;have hz:=Nat.eq_of_beq_eq_true hz;split at h
    ·obtain⟨hb,rfl,rfl⟩:=je h;obtain⟨b0,b1,b2⟩:=zc hb;obtain⟨C,hC,hS⟩:=hx;obtain⟨C',aw,hO⟩:=ok.obj _ _ ah;rw[hC] at aw;cases aw;have hlen:=hO.2.1;obtain⟨A,c,rfl,hS⟩:=hS;cases hB:C.blk with
     |none=>rw[hB] at hS;obtain⟨_,h0,_⟩:=hS;omega
     |some B=>
      rw[hB] at hS;obtain⟨hc,a,hA,ha,_⟩:=hS;have:a=0:=by rcases ha with ha|ha<;>omega
      have hr:=Eo (P:=P) (w:=w) (c:=c) (k:=k) hu b0 (show n<(C.len:Int) by omega) (by omega) hA;rw[this,hz,Nat.zero_add,Nat.mul_one] at hr;exact qH.pure ok hM hr ⟨C,B,hC,hB,by omega,rfl⟩
    ·exact h.elim
   ·rename_i ver xs m ah;obtain⟨hz,h⟩:=eM h;have hz:=Nat.eq_of_beq_eq_true hz;split at h
    ·obtain⟨hb,rfl,rfl⟩:=je h;obtain⟨b0,b1,b2⟩:=zc hb;obtain⟨C,hC,hS⟩:=hx;obtain⟨C',aw,hO⟩:=ok.obj _ _ ah;rw[hC] at aw;cases aw;have hlen:=hO.2.1;obtain⟨A,c,rfl,hS⟩:=hS;cases hB:C.blk with
     |none=>rw[hB] at hS;obtain⟨_,h0,_⟩:=hS;omega
     |some B=>
      rw[hB] at hS;obtain⟨hc,a,hA,ha,_⟩:=hS;have:a=0:=by rcases ha with ha|ha<;>omega
      have hr:=Eo (P:=P) (w:=w) (c:=c) (k:=k) hu b0 (show n<(C.len:Int) by omega) (by omega) hA;rw[this,hz,Nat.zero_add,Nat.mul_one] at hr;exact qH.pure ok hM hr ⟨C,B,hC,hB,by omega,rfl⟩
    ·exact h.elim
   ·exact h.elim
  ·rename_i id j ver;obtain⟨hz,h⟩:=eM h;have hz:=Nat.eq_of_beq_eq_true hz;split at h
   ·rename_i v' xs ah;obtain⟨hv,h⟩:=eM h;have hv:=Nat.eq_of_beq_eq_true hv;subst hv;obtain⟨hb,rfl,rfl⟩:=je h;obtain⟨b0,b1,b2⟩:=zc hb;obtain⟨C,hC,h1,hle,hm⟩:=hx;obtain⟨C',aw,hO⟩:=ok.obj _ _ ah;rw[hC] at aw;cases aw;obtain⟨rb,rl,k1,k2⟩:=hm hO.1;have hj:j<xs.length:=by
     rw[←hO.2.2.2.1];rcases Nat.lt_or_ge j C.rows.length with h|h
     ·exact h
     ·rw[List.getElem?_eq_none h] at k1;cases k1
    obtain⟨B,mB,x',q0,qv,q1,q2,q3,q4⟩:=yy hO hj;rw[k1] at q1;cases q1;have e1:xs.getD j []=xs[j]:=by simp[List.getD,hj]
    rw[e1] at b1 b2;cases rb with
    |none=>obtain⟨_,h0⟩:=k2;omega
    |some R=>
     obtain⟨a,c,rfl,hc,ha,_⟩:=k2;have:a=0:=by rcases ha with ha|ha<;>omega
     subst this;have hr:=Eo (P:=P) (w:=w) (c:=c) (k:=k) (A:=some ⟨R,0,none⟩) hu b0 b1 (by omega) rfl;rw[hz,Nat.zero_add,Nat.mul_one] at hr;exact qH.pure ok hM hr ⟨C,hC,rfl,hle,by grind⟩
   ·exact h.elim
  ·exact h.elim
 ·rename_i m e id off k n hu;have jl:ri=.int k n:=hi;subst jl;obtain⟨hz,h⟩:=I3 h;have hz:=I4 hz;obtain⟨j,j1,j2,rfl,rfl,rfl⟩:=En h;obtain⟨C,B,hC,hB,rfl⟩:=hx;obtain⟨y,hy⟩:=lN (P:=P) (t:=e) (by omega);refine qH.pure ok hM (rv:=.pointer (some ⟨B,off+j*P.cellsOf e,none⟩)) ?_ ⟨C,B,hC,hB,rfl⟩;have:(j:Int)<m:=by omega
  have h':¬m≤j:=by omega
  simp[Instr.indexAt,asIntOf,run_underlying hu,hZ,this,h',fR w hy,Addr.add_lit]
 ·rename_i m e id q off k n hu;have jl:ri=.int k n:=hi;subst jl;obtain⟨hz,h⟩:=I3 h;have hz:=I4 hz;obtain⟨j,j1,j2,rfl,rfl,rfl⟩:=En h;obtain⟨C,B,hC,hB,hq,rfl⟩:=hx;obtain⟨y,hy⟩:=lN (P:=P) (t:=e) (by omega);refine qH.pure ok hM (rv:=.pointer (some ⟨B,_+j*P.cellsOf e,none⟩)) ?_ ⟨C,B,hC,hB,hq,by rw[Nat.add_assoc]⟩;have:(j:Int)<m:=by omega
  have h':¬m≤j:=by omega
  simp[Instr.indexAt,asIntOf,run_underlying hu,hZ,this,h',fR w hy,Addr.add_lit]
 ·rename_i m e sh t x off k n hu;have jl:ri=.int k n:=hi;subst jl;obtain⟨hz,h⟩:=I3 h;have hz:=I4 hz;obtain⟨j,j1,j2,rfl,rfl,rfl⟩:=En h;obtain⟨B,o,rfl,hB,hE⟩:=hx;obtain⟨y,hy⟩:=lN (P:=P) (t:=e) (by omega);refine qH.pure ok hM (rv:=.pointer (some ⟨B,_+j*P.cellsOf e,none⟩)) ?_ ⟨B,o,by rw[Nat.add_assoc],hB,hE⟩;have:(j:Int)<m:=by omega
  have h':¬m≤j:=by omega
  simp[Instr.indexAt,asIntOf,run_underlying hu,hZ,this,h',fR w hy,Addr.add_lit]
 ·exact h.elim
theorem YK {M cs}{us:Array Value}{off n vs}(h:zK (zQ M) cs us.toList)(hc:kk cs off n=some vs):zK (zQ M) vs (us.extract off (off+n)).toList:=by
 obtain⟨h1,rfl,h2⟩:=Ei hc;have:=(h.drop off).take n;simp_all
theorem YL {P M w t cs us off vs v}(h:zK (zQ M) cs us.toList)
  (hc:kk cs off (P.cellsOf t)=some vs) (hp:nA (wW P t) vs=some v):∃rv,(part t us off).run P w=.ok rv w∧zP M v rv:=by
 have bb:=YK h hc;obtain⟨h1,h2,h3⟩:=Ei hc;have hl:=h.length;rcases NK hp with⟨dC,rfl⟩|⟨dC,c,rfl,rfl⟩
 ·obtain⟨⟨d,hd⟩,hr⟩:=pj (P:=P) w dC;obtain⟨i,hi⟩:=IQ hd;exact⟨.agg (us.extract off (off+P.cellsOf t)),by simp[part,hr,fR w hi],_,rfl,bb⟩
 ·obtain⟨⟨d,hd⟩,hr⟩:=pj (P:=P) w dC;simp  at h3;have bd:off<us.size:=by grind
  have N3:off<cs.length:=by omega
  refine⟨us[off],by simp[part,hr,bd],?_⟩;have e:cs[off]=c:=by
   have:=congrArg (·[0]?) h2;grind
  have:=h.get off N3 (by omega);show zQ M c us[off];simp_all
theorem vLd {P M w}(ok:Ok M)(hM:M.H=w.heap){s x v f u rx}(hx:zP M x rx)
  (h:yC (Nr P s x f) v u):qH P (Instr.field s rx f) M w v u:=by
 unfold Nr at h;split at h
 ·rename_i fs cs hs;split at h
  ·rename_i fd hf;split at h
   ·rename_i vs hc;obtain⟨h',rfl⟩:=NH h;obtain⟨us,rfl,lP⟩:=hx;obtain⟨rv,hr,hv⟩:=YL (P:=P) (w:=w) lP hc h';exact qH.pure ok hM (by simp[Instr.field,run_underlying hs,hf,asAgg,hr]) hv
   ·exact h.elim
  ·exact h.elim
 ·exact h.elim
theorem yWj {P M w}(ok:Ok M)(hM:M.H=w.heap){t x i v u rx ri}(hx:zP M x rx)(hi:zP M i ri)
  (h:yC (Np P t x i) v u):qH P (Instr.index t rx ri) M w v u:=by
 unfold Np at h;split at h
 ·rename_i m e cs k n hu;have jl:ri=.int k n:=hi;subst jl;obtain⟨hc,h⟩:=eM h;simp only[Bool.and_eq_true] at hc;obtain⟨⟨c1,c2⟩,c3⟩:=hc;have c1:=Nat.eq_of_beq_eq_true c1;have c3:=Nat.eq_of_beq_eq_true c3;obtain⟨j,j1,j2,rfl,rfl,rfl⟩:=En h;obtain⟨us,rfl,lP⟩:=hx;have dC:wW P e=some false:=by
   grind
  have hj:j<cs.length:=by omega
  have dU:kk cs j (P.cellsOf e)=some [cs[j]]:=by
   unfold kk;have:Nat.ble (j+P.cellsOf e) cs.length=true:=Nat.ble_eq_true_of_le (by omega);rw[this,c1];simp[List.take_one]
  obtain⟨rv,hr,hv⟩:=YL (P:=P) (w:=w) lP dU (v:=.c cs[j]) (by rw[dC];rfl);obtain⟨y,hy⟩:=lN (P:=P) (t:=e) (by omega);have hjm:(j:Int)<m:=by omega
  refine qH.pure ok hM (rv:=rv) ?_ ?_
  ·have h':¬m≤j:=by omega
   simp[Instr.index,asIntOf,run_underlying hu,h',fR w hy,c1,hr]
  simp_all
 ·exact h.elim
theorem vOz {P M w}(ok:Ok M)(hM:M.H=w.heap){t}{s:ByteArray}{i v u ri}(hi:zP M i ri)
  (h:yC (Nq P t s i) v u):qH P (Instr.index t (.string s) ri) M w v u:=by
 unfold Nq at h;split at h
 ·rename_i k n hu;have jl:ri=.int k n:=hi;subst jl;obtain⟨hb,rfl,rfl⟩:=je h;unfold zC D9 at hb;simp only[Bool.and_eq_true,decide_eq_true_eq,List.length_map] at hb;obtain⟨b1,b2⟩:=hb;have bd:n.toNat<s.data.toList.length:=by omega
  have df:n.toNat<s.size:=by simpa using bd
  have cQ:s[n.toNat]? =some s.data.toList[n.toNat]:=by
   rw[getElem?_pos s n.toNat df];rfl
  have fT:(D9 s).getD n.toNat 0=(s.data.toList[n.toNat].toNat:Int):=by
   unfold D9;rw[List.getD_eq_getElem?_getD,List.getElem?_map,List.getElem?_eq_getElem bd];rfl
  refine qH.pure ok hM (rv:=.int .u8 (s.data.toList[n.toNat].toNat:Int)) ?_ (by rw[fT];rfl);simp only[Instr.index,asIntOf];simp[run_underlying hu,b1,cQ]
 ·exact h.elim
theorem N4 a b:gY a b=(a==b):=by cases a<;>cases b<;>rfl
theorem vD5 {P M w}(ok:Ok M)(hM:M.H=w.heap){op k x y xt v u}(hs:op≠.shl∧op≠.shr)
  (h:yC (Yg op k x y) v u):qH P (binOp op xt (.int k x) (.int k y)) M w v u:=by
 cases op with
 |shl=>simp_all
 |shr=>simp_all
 |quo=>
  obtain⟨h1,rfl,rfl⟩:=je h;simp  at h1;exact qH.pure ok hM (rv:=.int k (k.wrap (x.tdiv y))) (by simp[binOp,Op.intDiv,h1]) rfl
 |rem=>
  obtain⟨h1,rfl,rfl⟩:=je h;simp[Bool.not_eq_true'] at h1;exact qH.pure ok hM (rv:=.int k (x.tmod y)) (by simp[binOp,Op.intDiv,h1]) rfl
 |neq=>
  obtain⟨rfl,rfl⟩:=vP h;exact qH.pure ok hM (rv:=.bool (!decide (x=y))) (by simp[binOp,Op.intCmp,bne,BEq.beq]) rfl
 |eql=>
  obtain⟨rfl,rfl⟩:=vP h;exact qH.pure ok hM (rv:=.bool (decide (x=y))) (by simp[binOp,Op.intCmp,BEq.beq]) rfl
 |_=>
  obtain⟨rfl,rfl⟩:=vP h;exact qH.pure ok hM (rv:=_) (by simp[binOp];rfl) rfl
theorem YM {P M w}(ok:Ok M)(hM:M.H=w.heap){op k j x y xt v u}(hs:op=.shl∨op=.shr)
  (h:yC (Yh op k x y) v u):qH P (binOp op xt (.int k x) (.int j y)) M w v u:=by
 rcases hs with rfl|rfl
 ·obtain⟨h1,rfl,rfl⟩:=je h;simp only[Bool.not_eq_true',decide_eq_false_iff_not] at h1;exact qH.pure ok hM (rv:=.int k (k.wrap (x*2^(min y.toNat k.bits)))) (by simp only[binOp,Op.shift,h1,if_false];rfl) rfl
 ·obtain⟨h1,rfl,rfl⟩:=je h;simp only[Bool.not_eq_true',decide_eq_false_iff_not] at h1;exact qH.pure ok hM (rv:=.int k (x.fdiv (2^(min y.toNat k.bits)))) (by simp only[binOp,Op.shift,h1];rfl) rfl
def Ep (P:Program)(eqT:TypeId→Bool):Prop:=∀t,eqT t=true→∀(M:zI) (xs ys:List zV) (us vs:Array Value) (r:Bool) (w:World),Is P t xs ys=some r→
 zK (zQ M) xs us.toList→zK (zQ M) ys vs.toList→P.eqGuardType P.depth t=false∧(Op.equal t (.agg us) (.agg vs)).run P w=.ok r w
def uA:zV→zV→Option Bool
 |.int j a,.int k b=>bif jW j k then some (decide (a=b)) else none
 |.bool a,.bool b=>some (gY a b)
 |_,_=>none
theorem yWf {x y xs ys r}(h:jX (x::xs) (y::ys)=some r):∃b r',uA x y=some b∧jX xs ys=some r'∧r=(b&&r'):=by
 have Er:(match uA x y,jX xs ys with|some b,some r'=>some (b&&r')|_,_=>none)=some r→∃b r',uA x y=some b∧jX xs ys=some r'∧r=(b&&r'):=by
  grind
 apply Er;rw[←h]
 match x,y with
 |.int j a,.int k b=>
  cases hk:jW j k<;>cases xs<;>cases ys<;>simp only[jX,uA,hk,cond_true]<;>first|grind|rfl
 |.bool a,.bool b=>
  cases xs<;>cases ys<;>simp only[jX,uA]<;>first|grind|rfl
 |.int _ _,.str _|.int _ _,.undef|.int _ _,.bool _|.int _ _,.fsl _ _ _|.int _ _,.nfl _ _ _|.int _ _,.nsl|.int _ _,.osl _ _|.int _ _,.bsl _ _ _|.int _ _,.ptr _ _|.int _ _,.eptr _ _ _|.int _ _,.fptr _ _ _ _|.int _ _,.mrow _ _ _|.int _ _,.mptr _ _|.int _ _,.meptr _ _ _ _|.int _ _,.nilp|.int _ _,.nilf|.int _ _,.nilm|.int _ _,.fn _ _|.int _ _,.map _
 |.bool _,.str _|.bool _,.undef|.bool _,.int _ _|.bool _,.fsl _ _ _|.bool _,.nfl _ _ _|.bool _,.nsl|.bool _,.osl _ _|.bool _,.bsl _ _ _|.bool _,.ptr _ _|.bool _,.eptr _ _ _|.bool _,.fptr _ _ _ _|.bool _,.mrow _ _ _|.bool _,.mptr _ _|.bool _,.meptr _ _ _ _|.bool _,.nilp|.bool _,.nilf|.bool _,.nilm|.bool _,.fn _ _|.bool _,.map _=>cases xs<;>cases ys<;>cases h
def N5 (b:Bool)(us:List Value):Value:=bif b then .agg us.toArray else us.getD 0 (.bool false)
theorem zd {P:Program}:∀{a r xs},eY (a++r) xs=true→eY a (xs.take a.length)=true∧eY r (xs.drop a.length)=true∧(xs.take a.length).length=a.length
 |[],r,xs,h=>⟨rfl,h,rfl⟩
 |k::a,r,xs,h=>by
  match k,xs,h with
  |some k,.int j n::xs,h=>
   have h':(jW j k&&eY (a++r) xs)=true:=h;rw[Bool.and_eq_true] at h';obtain⟨h1,h2,h3⟩:=zd (P:=P) h'.2;refine⟨?_,h2,by simp[h3]⟩;show(jW j k&&eY a (xs.take a.length))=true;simp_all
  |none,.bool b::xs,h=>
   have h':eY (a++r) xs=true:=h;obtain⟨h1,h2,h3⟩:=zd (P:=P) h';exact⟨h1,h2,by simp[h3]⟩
theorem N6:∀{a b c d r},a.length=b.length→jX (a++c) (b++d)=some r→∃r1 r2,jX a b=some r1∧jX c d=some r2∧r=(r1&&r2)
 |[],[],c,d,r,_,h=>⟨true,r,rfl,h,rfl⟩
 |x::a,y::b,c,d,r,hl,h=>by
  obtain⟨e,r',h1,h2,rfl⟩:=yWf h;obtain⟨r1,r2,h3,h4,rfl⟩:=N6 (by simp_all) h2;refine⟨e&&r1,r2,?_,h4,by grind⟩;have mk:∀{x y:zV} {xs ys:List zV} {b r':Bool},uA x y=some b→jX xs ys=some r'→xs.length=ys.length→jX (x::xs) (y::ys)=some (b&&r'):=by
   intro x y xs ys b r' h1 h2 hl;cases x<;>cases y<;>first|(cases h1;done)|skip
   ·rename_i j m k n;simp[uA] at h1;cases hk:jW j k with
    |false=>simp_all
    |true=>
     rw[hk] at h1;cases h1;cases xs<;>cases ys
     ·cases h2;simp[jX,hk]
     ·cases hl
     ·cases hl
     ·simp[jX,hk,h2]
   ·cases h1;cases xs<;>cases ys
    ·cases h2;simp[jX]
    ·cases hl
    ·cases hl
    ·simp[jX,h2]
  grind
def N7 (P:Program)(dd:Nat)(t:TypeId)(ks:List (Option IntKind)):Prop:=∃b,wW P t=some b∧(b=false→ks.length=1)∧∀(M:zI) (w:World) (us vs:List Value) (xs ys:List zV) (r:Bool),
 eY ks xs=true→eY ks ys=true→jX xs ys=some r→zK (zQ M) xs us→zK (zQ M) ys vs→(Op.equalIn dd t (N5 b us) (N5 b vs)).run P w=.ok r w
theorem nI:∀{ks xs},eY ks xs=true→xs.length=ks.length
 |[],[],_=>rfl
 |some k::ks,.int j n::xs,h=>by
  have h':(jW j k&&eY ks xs)=true:=h;rw[Bool.and_eq_true] at h';simp[nI h'.2]
 |none::ks,.bool b::xs,h=>by
  have h':eY ks xs=true:=h;simp[nI h']
theorem I5 {P t b}(ht:wW P t=some b){us off w}(hn:off+P.cellsOf t≤us.size)(h1:b=false→P.cellsOf t=1)(h0:∃i,P.info? t=some i):
  (part t us off).run P w=.ok (N5 b ((us.toList.drop off).take (P.cellsOf t))) w:=by
 obtain⟨⟨d,hd⟩,hr⟩:=pj (P:=P) w ht;cases b with
 |true=>
  obtain⟨i,hi⟩:=h0;simp[part,hr,fR w hi]
  congr 2
  grind
 |false=>
  have h1:=h1 rfl;have bd:off<us.size:=by omega
  have e:us[off]? =some us[off]:=by simp
  have e2:(us.toList.drop off).take 1=[us[off]]:=by
   rw[List.drop_eq_getElem_cons (by omega)];simp
  simp[part,hr,e,h1,e2];rfl
theorem YN {P dd M w us vs rec}:∀fs i ks xs ys r,(∀f∈fs,∀a,rec f.type=some a→N7 P dd f.type a)→
  Ir P rec i fs=some ks→eY ks xs=true→eY ks ys=true→jX xs ys=some r→zK (zQ M) xs (us.toList.drop i)→zK (zQ M) ys (vs.toList.drop i)→(Op.eqFields dd us vs fs).run P w=.ok r w
 |[],i,ks,xs,ys,r,_,hk,hx,hy,he,hu,hv=>by
  cases hk;cases xs with
  |cons _ _=>cases hx
  |nil=>cases ys with
   |cons _ _=>cases hy
   |nil=>cases he;rfl
 |f::fs,i,ks,xs,ys,r,bb,hk,hx,hy,he,hu,hv=>by
  unfold Ir at hk;cases hc:(Nat.beq f.offset i&& !(f.name== "_")) with
  |false=>rw[hc] at hk;cases hk
  |true=>
   rw[hc] at hk;rw[Bool.and_eq_true] at hc;have ho:f.offset=i:=by simpa using hc.1
   have hn:f.name≠ "_" :=by simpa using hc.2
   dsimp only[cond_true] at hk;split at hk
   ·rename_i a r0 ha pv;cases hl:(Nat.beq a.length (P.cellsOf f.type)&&Nat.blt 0 a.length) with
    |false=>rw[hl] at hk;cases hk
    |true=>
     rw[hl] at hk;cases hk;rw[Bool.and_eq_true] at hl;have I6:0<a.length:=by have:=hl.2;simp[Nat.blt] at this;omega
     have hl:=Nat.eq_of_beq_eq_true hl.1;obtain⟨b,hb,gE,hE⟩:=bb f (List.mem_cons_self ..) a ha;obtain⟨x1,x2,x3⟩:=zd (P:=P) hx;obtain⟨y1,y2,y3⟩:=zd (P:=P) hy;have ex:xs=xs.take a.length++xs.drop a.length:=(List.take_append_drop _ _).symm;have ey:ys=ys.take a.length++ys.drop a.length:=(List.take_append_drop _ _).symm;rw[ex,ey] at he;obtain⟨r1,r2,e1,e2,rfl⟩:=N6 (by rw[x3,y3]) he;have ze:=hu.length;have N8:=hv.length;have uB:=nI hx;have uC:=nI hy;rw[List.length_append] at uB uC;have uD:=hu.take a.length;have la:=hv.take a.length;have uE:=hu.drop a.length;have mD:=hv.drop a.length;rw[List.drop_drop] at uE mD;have h0:∃i,P.info? f.type=some i:=by
      obtain⟨⟨d,hd⟩,_⟩:=pj (P:=P) w hb;exact IQ hd
     have step:=hE M w _ _ _ _ r1 x1 y1 e1 uD la;rw[hl] at uE mD;have ih:=YN (w:=w) fs (i+P.cellsOf f.type) r0 _ _ r2 (fun g hg=>bb g (List.mem_cons_of_mem _ hg)) pv x2 y2 e2 (by rw[hl];exact uE) (by rw[hl];exact mD);have bu:i+P.cellsOf f.type≤us.size:=by simp at ze;omega
     have bv:i+P.cellsOf f.type≤vs.size:=by simp at N8;omega
     have p1:=I5 (w:=w) hb bu (by grind) h0;have p2:=I5 (w:=w) hb bv (fun e=>by have:=gE e;omega) h0;rw[hl] at step;unfold Op.eqFields;rw[if_pos hn,ho];simp only[Sem.run_bind,p1,p2,Result.andThen_ok,step];cases r1 with
     |true=>grind
     |false=>simp
   ·cases hk
theorem YO {P dd M w us vs e a}(hE:N7 P dd e a)(hl:a.length=P.cellsOf e)(I6:0<a.length):∀c j xs ys r,
  eY (ui c a) xs=true→eY (ui c a) ys=true→jX xs ys=some r→zK (zQ M) xs (us.toList.drop (j*P.cellsOf e))→zK (zQ M) ys (vs.toList.drop (j*P.cellsOf e))→(Op.eqItems dd e (P.cellsOf e) us vs (List.range' j c)).run P w=.ok r w
 |0,j,xs,ys,r,hx,hy,he,hu,hv=>by
  cases xs with
  |cons _ _=>cases hx
  |nil=>cases ys with
   |cons _ _=>cases hy
   |nil=>cases he;rfl
 |c+1,j,xs,ys,r,hx,hy,he,hu,hv=>by
  obtain⟨b,hb,gE,IY⟩:=id hE;obtain⟨x1,x2,x3⟩:=zd (P:=P) hx;obtain⟨y1,y2,y3⟩:=zd (P:=P) hy;have ex:xs=xs.take a.length++xs.drop a.length:=(List.take_append_drop _ _).symm;have ey:ys=ys.take a.length++ys.drop a.length:=(List.take_append_drop _ _).symm;rw[ex,ey] at he;obtain⟨r1,r2,e1,e2,rfl⟩:=N6 (by rw[x3,y3]) he;have ze:=hu.length;have N8:=hv.length;have uB:=nI hx;have uC:=nI hy;have rZ:(ui (c+1) a).length=a.length+(ui c a).length:=by show(a++ui c a).length=_;rw[List.length_append]
  rw[rZ] at uB uC;have uD:=hu.take a.length;have la:=hv.take a.length;have uE:=hu.drop a.length;have mD:=hv.drop a.length;rw[List.drop_drop] at uE mD;have h0:∃i,P.info? e=some i:=by
   obtain⟨⟨d,hd⟩,_⟩:=pj (P:=P) w hb;exact IQ hd
  have step:=IY M w _ _ _ _ r1 x1 y1 e1 uD la;have ej:j*P.cellsOf e+a.length=(j+1)*P.cellsOf e:=by rw[Nat.add_mul];omega
  rw[ej] at uE mD;have ih:=YO (w:=w) hE hl I6 c (j+1) _ _ r2 x2 y2 e2 uE mD;have bu:j*P.cellsOf e+P.cellsOf e≤us.size:=by simp at ze;omega
  have bv:j*P.cellsOf e+P.cellsOf e≤vs.size:=by simp at N8;omega
  have p1:=I5 (w:=w) hb bu (by grind) h0;have p2:=I5 (w:=w) hb bv (fun e=>by have:=gE e;omega) h0;rw[hl] at step;rw[show List.range' j (c+1)=j::List.range' (j+1) c from rfl];simp only[Op.eqItems,Sem.run_bind,p1,p2,Result.andThen_ok,step];cases r1 with
  |true=>grind
  |false=>simp
theorem N9 {P} d:∀m t ks,P.keyTypeAt m t=true→xW P m t=some ks→N7 P (d+m) t ks
 |0,_,_,h,_=>by simp[Program.keyTypeAt] at h
 |m+1,t,ks,hk,h=>by
  unfold Program.keyTypeAt at hk;unfold xW at h;split at h
  ·rename_i k hu;cases h;refine⟨false,by unfold wW;rw[hu],fun _=>rfl,fun M w us vs xs ys r hx hy he nJ fS=>?_⟩;have uB:=nI hx;have uC:=nI hy
   match xs,ys,us,vs,hx,hy,nJ,fS,uB,uC with
   |[.int j a],[.int j' c],[u],[v],hx,hy,⟨uD,_⟩,⟨la,_⟩,_,_=>
    have e1:u=.int j a:=uD;have e2:v=.int j' c:=la;subst e1;subst e2;simp only[jX] at he;cases hk:jW j j' with
    |false=>rw[hk] at he;cases he
    |true=>
     rw[hk] at he;cases he;rw[←oW hk];exact run_equalIn_int (P:=P) w (d+m) t j k a c hu
  ·rename_i hu;cases h;refine⟨false,by unfold wW;rw[hu],fun _=>rfl,fun M w us vs xs ys r hx hy he nJ fS=>?_⟩;have uB:=nI hx;have uC:=nI hy
   match xs,ys,us,vs,hx,hy,nJ,fS,uB,uC with
   |[.bool a],[.bool c],[u],[v],hx,hy,⟨uD,_⟩,⟨la,_⟩,_,_=>
    have e1:u=.bool a:=uD;have e2:v=.bool c:=la;subst e1;subst e2;cases he;show(Op.equalIn (d+m+1) t (.bool a) (.bool c)).run P w=_;rw[run_equalIn_bool' (P:=P) w (d+m) t a c hu,N4]
  ·rename_i fs hu;simp only[hu,Bool.and_eq_true,Bool.not_eq_true'] at hk;refine⟨true,by unfold wW;rw[hu],by simp,fun M w us vs xs ys r hx hy he nJ fS=>?_⟩;have hf:P.fieldsOf t=fs:=by unfold Program.fieldsOf;rw[hu]
   have:=run_equalIn_struct (P:=P) w (d+m) t us.toArray vs.toArray (by rw[hf];exact hu) hk.2;rw[hf] at this;refine this.trans (YN (rec:=xW P m) _ 0 ks xs ys r (fun f hf a ha=>?_) h hx hy he (by simpa using nJ) (by simpa using fS));have YP:=Array.all_eq_true_iff_forall_mem.1 hk.1.1 f (by grind);simp only[Bool.and_eq_true,bne_iff_ne,ne_eq] at YP;exact N9 d m f.type a YP.2 ha
  ·rename_i n e hu;simp only[hu] at hk;split at h
   ·rename_i a ha;cases hl:(Nat.beq a.length (P.cellsOf e)&&Nat.blt 0 a.length) with
    |false=>rw[hl] at h;cases h
    |true=>
     rw[hl] at h;cases h;rw[Bool.and_eq_true] at hl;have I6:0<a.length:=by have:=hl.2;simp[Nat.blt] at this;omega
     have hl:=Nat.eq_of_beq_eq_true hl.1;refine⟨true,by unfold wW;rw[hu],(by simp),fun M w us vs xs ys r hx hy he nJ fS=>?_⟩;obtain⟨i,hi⟩:=lN (P:=P) (t:=e) (by omega);have:=run_equalIn_array (P:=P) w (d+m) us.toArray vs.toArray hu hi;refine this.trans ?_;rw[List.range_eq_range'];exact YO (N9 d m e a hk ha) hl I6 n 0 xs ys r hx hy he (by simpa using nJ) (by simpa using fS)
   ·cases h
  ·cases h
theorem Es {P eqT}(h:∀t,eqT t=true→(P.keyTypeAt 8 t&& !P.eqGuardType P.depth t)=true):Ep P eqT:=by
 intro t ht M xs ys us vs r w he hu hv;have h:=h t ht;simp  at h;refine⟨h.2,?_⟩;unfold Is at he;split at he
 ·rename_i ks hk;unfold Yi at hk;split at hk
  ·cases hc:(eY ks xs&&eY ks ys) with
   |false=>simp_all
   |true=>
    rw[hc] at he;rw[Bool.and_eq_true] at hc;obtain⟨b,hb,_,hE⟩:=N9 (P:=P) 9992 8 t ks h.1 hk;have:b=true:=by
     unfold wW at hb;simp_all
    subst this;exact hE M w us.toList vs.toList xs ys r hc.1 hc.2 he hu hv
  ·cases hk
 ·cases he
theorem YQ {P t}(h:Iv P t=true):P.underlying t=some .bool:=by
 unfold Iv at h;grind
theorem vQ5 {P eqT}(heq:Ep P eqT){M w}(ok:Ok M)(hM:M.H=w.heap){op xt ox oy x y v u rx ry}
  (hx:zP M x rx) (hy:zP M y ry) (h:yC (Nm P eqT op xt ox oy x y) v u):qH P (do eqGuard op xt ox oy rx ry;binOp op xt rx ry) M w v u:=by
 have quiet:∀{k j:IntKind} {a b:Int},(eqGuard op xt ox oy (.int k a) (.int j b)).run P w=.ok () w:=by
  unfold eqGuard;simp
 have step:∀{a b:Value},(eqGuard op xt ox oy a b).run P w=.ok () w→qH P (binOp op xt a b) M w v u→qH P (do eqGuard op xt ox oy a b;binOp op xt a b) M w v u:=by
  rintro a b hg ⟨rv,w',M',h1,h2⟩
  exact⟨rv,w',M',by simp_all,h2⟩
 unfold Nm at h;split at h
 ·have e1:rx=_:=hx;have e2:ry=_:=hy;subst e1;subst e2;exact step quiet (YM ok hM (.inl rfl) h)
 ·have e1:rx=_:=hx;have e2:ry=_:=hy;subst e1;subst e2;exact step quiet (YM ok hM (.inr rfl) h)
 ·obtain⟨hk,h2⟩:=eM h;have hk:=oW hk;subst hk;have e1:rx=_:=hx;have e2:ry=_:=hy;subst e1;subst e2;exact step quiet (vD5 ok hM (by grind) h2)
 ·rename_i a b;have e1:rx=_:=hx;have e2:ry=_:=hy;subst e1;subst e2;obtain⟨hb,h2⟩:=eM h;obtain⟨rfl,rfl⟩:=vP h2;have hr:=run_equalIn_bool' (P:=P) w 9999 xt a b (YQ hb);refine qH.pure ok hM (rv:=.bool (gY a b)) ?_ rfl;have sb:(Op.equal xt (.bool a) (.bool b)).run P w=.ok (a==b) w:=hr;have hg:(eqGuard .eql xt ox oy (.bool a) (.bool b)).run P w=.ok () w:=by rfl
  simp only[Sem.run_bind,hg,Result.andThen_ok,binOp,sb,Sem.run_pure,N4]
 ·rename_i a b;have e1:rx=_:=hx;have e2:ry=_:=hy;subst e1;subst e2;obtain⟨hb,h2⟩:=eM h;obtain⟨rfl,rfl⟩:=vP h2;have hr:=run_equalIn_bool' (P:=P) w 9999 xt a b (YQ hb);refine qH.pure ok hM (rv:=.bool (!gY a b)) ?_ rfl;have sb:(Op.equal xt (.bool a) (.bool b)).run P w=.ok (a==b) w:=hr;have hg:(eqGuard .neq xt ox oy (.bool a) (.bool b)).run P w=.ok () w:=by rfl
  simp only[Sem.run_bind,hg,Result.andThen_ok,binOp,sb,Sem.run_pure,N4]
 ·rename_i a b;have e1:rx=_:=hx;have e2:ry=_:=hy;subst e1;subst e2;obtain⟨rfl,rfl⟩:=vP h;have hg:(eqGuard .eql xt ox oy (.string ⟨(lL a).toArray⟩) (.string ⟨(lL b).toArray⟩)).run P w=.ok () w:=by rfl
  refine qH.pure ok hM (rv:=.bool (Iu a b)) ?_ rfl;simp only[hg,binOp_string_eql,ByteArray.toList_eq];rfl
 ·rename_i a b;have e1:rx=_:=hx;have e2:ry=_:=hy;subst e1;subst e2;obtain⟨rfl,rfl⟩:=vP h;have hg:(eqGuard .neq xt ox oy (.string ⟨(lL a).toArray⟩) (.string ⟨(lL b).toArray⟩)).run P w=.ok () w:=by rfl
  refine qH.pure ok hM (rv:=.bool (!Iu a b)) ?_ rfl;simp only[hg,Result.andThen_ok,binOp_string_neq,ByteArray.toList_eq,Sem.run_pure];rfl
 ·obtain⟨ht,h⟩:=eM h;split at h
  ·rename_i r hr;obtain⟨rfl,rfl⟩:=vP h;obtain⟨us,rfl,lP⟩:=hx;obtain⟨vs,rfl,dh⟩:=hy;obtain⟨g1,g2⟩:=heq xt ht M _ _ us vs r w hr lP dh;exact step (run_eqGuard_agg w _ xt ox oy us vs g1) (qH.pure ok hM (rv:=.bool r) (by simp only[binOp,Sem.run_bind,g2,Result.andThen_ok];rfl) rfl)
  ·exact h.elim
 ·obtain⟨ht,h⟩:=eM h;split at h
  ·rename_i r hr;obtain⟨rfl,rfl⟩:=vP h;obtain⟨us,rfl,lP⟩:=hx;obtain⟨vs,rfl,dh⟩:=hy;obtain⟨g1,g2⟩:=heq xt ht M _ _ us vs r w hr lP dh;exact step (run_eqGuard_agg w _ xt ox oy us vs g1) (qH.pure ok hM (rv:=.bool (!r)) (by simp only[binOp,Sem.run_bind,g2];rfl) rfl)
  ·exact h.elim
 ·exact h.elim
theorem yWe {P M w}(ok:Ok M)(hM:M.H=w.heap){op x v u rx}(hx:zP M x rx)(h:yC (Nn op x) v u):
  qH P (Op.unary op rx) M w v u:=by
 unfold Nn at h;split at h
 ·obtain⟨rfl,rfl⟩:=vP h;have e1:rx=_:=hx;subst e1;exact qH.pure ok hM rfl rfl
 ·obtain⟨rfl,rfl⟩:=vP h;have e1:rx=_:=hx;subst e1;exact qH.pure ok hM rfl rfl
 ·exact h.elim
theorem uF {P w k}{i:Int}{y:Nat}{c}(h0:0≤i)(h1:i≤y):(Instr.sliceBound (.int k i) y c).run P w=.ok i.toNat w:=by
 simp[Instr.sliceBound,asIntOf,h0,h1]
def zg (M:zI):Option zT→Option Value→Prop
 |none,none=>True
 |some a,some v=>zP M a v
 |_,_=>False
theorem Et {P M w b len cap l u lo hi ig gF}(jm:zg M lo ig)(iQ:zg M hi gF)(hc:len≤cap)
  (h:rM len lo hi=some (true,l,u)):(Instr.sliceBounds b len cap ig gF none).run P w=.ok (l,u,cap) w∧l≤u∧u≤len∧(lo=none→l=0)∧(hi=none→u=len):=by
 unfold rM at h;split at h
 ·cases h;cases ig with
  |some _=>exact jm.elim
  |none=>cases gF with
   |some _=>exact iQ.elim
   |none=>exact⟨by rfl,by simp,by simp,by simp,by simp⟩
 ·rename_i k i;simp  at h;obtain⟨⟨h0,h1⟩,rfl,rfl⟩:=h;cases gF with
  |some _=>exact iQ.elim
  |none=>cases ig with
   |none=>exact jm.elim
   |some v=>
    have e:v=.int k i:=jm;subst e;refine⟨?_,by omega,by simp,by simp,by simp⟩;simp[Instr.sliceBounds];rw[uF h0 h1];rfl
 ·rename_i k i;simp  at h;obtain⟨⟨h0,h1⟩,rfl,rfl⟩:=h;cases ig with
  |some _=>exact jm.elim
  |none=>cases gF with
   |none=>exact iQ.elim
   |some v=>
    have e:v=.int k i:=iQ;subst e;refine⟨?_,by simp,by omega,by simp,by simp⟩;simp only[Instr.sliceBounds,Sem.run_bind,Sem.run_pure,Result.andThen_ok];rw[uF h0 (by omega)];rfl
 ·rename_i k i k' i';simp  at h;obtain⟨⟨⟨h0,h1⟩,h2⟩,rfl,rfl⟩:=h;cases ig with
  |none=>exact jm.elim
  |some v=>cases gF with
   |none=>exact iQ.elim
   |some v'=>
    have e:v=.int k i:=jm;have e':v'=.int k' i':=iQ;subst e;subst e';refine⟨?_,by omega,by omega,by simp,by simp⟩;simp[Instr.sliceBounds];rw[uF (by omega) (by omega)];simp;rw[uF h0 (by omega)];rfl
 ·cases h
def lS (A:Option Addr)(l c size:Nat):Option Addr:=if c=l then A else A.map (·.add (l*size))
theorem wE.cut {H C lo n l u A c}(h:wE H C lo n (.slice A n c))(h1:l≤u)(h2:u≤n):
  wE H C (lo+l) (u-l) (.slice (lS A l c C.sz) (u-l) (c-l)):=by
 obtain⟨A',c',e,h⟩:=h;obtain⟨rfl,_,rfl⟩:=e;refine⟨_,_,rfl,?_⟩;cases hB:C.blk with
 |none=>
  rw[hB] at h;obtain⟨rfl,rfl,rfl⟩:=h;refine⟨?_,by omega,by omega⟩;unfold lS;simp
 |some B=>
  rw[hB] at h;obtain⟨hc,a,rfl,ha,hs⟩:=h;refine⟨by omega,?_⟩;unfold lS;by_cases e:c=l
  ·simp_all
  ·rw[if_neg e];refine⟨a+l*C.sz,by simp[Addr.add_lit],.inr ?_,by grind⟩;grind
theorem wE.cut' {H C lo n l u A c}(h:wE H C lo n (.slice A n c))(h1:l≤u)(h2:u≤c):
  wE H C (lo+l) (u-l) (.slice (lS A l c C.sz) (u-l) (c-l)):=by
 obtain⟨A',c',e,h⟩:=h;obtain⟨rfl,_,rfl⟩:=e;refine⟨_,_,rfl,?_⟩;cases hB:C.blk with
 |none=>
  rw[hB] at h;obtain⟨rfl,rfl,rfl⟩:=h;refine⟨?_,by omega,by omega⟩;unfold lS;simp
 |some B=>
  rw[hB] at h;obtain⟨hc,a,rfl,ha,hs⟩:=h;refine⟨by omega,?_⟩;unfold lS;by_cases e:c=l
  ·simp_all
  ·rw[if_neg e];refine⟨a+l*C.sz,by simp[Addr.add_lit],.inr ?_,by grind⟩;grind
theorem vAf {H F t}{xs:List t.den}{A n c l u}(h:qB H F (.sl t) xs (fun _=>some (.slice A n c)))(h1:l≤u)(h2:u≤n):
  qB H F (.sl t) (qW xs l (u-l)) (fun _=>some (.slice (lS A l c t.size) (u-l) (c-l))):=by
 simp[qB] at h⊢;obtain⟨A',n',c',⟨rfl,rfl,rfl⟩,hn,hc,h⟩:=h;have hl:=y8 (xs:=xs) (lo:=l) (n:=u-l) (by omega);refine⟨_,_,_,⟨rfl,rfl,rfl⟩,hl.symm,by omega,?_⟩;by_cases e0:u-l=0
 ·refine .inl ⟨by grind,fun hA=>?_⟩;rcases h with⟨rfl,h0⟩|⟨B,o,rfl,_⟩
  ·cases A with
   |none=>simp_all
   |some a=>
    unfold lS at hA;grind
  ·unfold lS at hA;grind
 ·rcases h with⟨rfl,_⟩|⟨B,o,rfl,hB,hE⟩
  ·simp_all
  ·refine .inr ⟨B,o+l*t.size,?_,hB,fun i hi=>?_⟩
   ·unfold lS;rw[if_neg (by omega)];simp[Addr.add_lit]
   ·obtain⟨bE,e1⟩:=IX hi;grind
theorem YR {P w t e A n c l u ig gF}(hu:P.underlying t=some (.slice e))(he:0<P.cellsOf e)
  (hb:(Instr.sliceBounds true n c ig gF none).run P w=.ok (l,u,c) w):
  (Instr.sliceAt t (.slice A n c) ig gF none).run P w=.ok (.slice (lS A l c (P.cellsOf e)) (u-l) (c-l)) w:=by
 obtain⟨y,hy⟩:=lN he;simp[Instr.sliceAt,run_underlying hu,Instr.slice,hb,fR w hy,lS]
theorem YS {M}:∀{vs us ns},um vs=some ns→zK (zQ M) vs us→us=ns.map (.int .i64 ·)∧vs=ns.map (.int .i64 ·)
 |[],[],ns,h,_=>by cases h;simp
 |v::vs,u::us,ns,h,hh=>by
  unfold um at h;split at h
  ·simp_all
  ·rename_i n l heq;cases heq;split at h
   ·rename_i r hr;cases h;obtain⟨e1,e2⟩:=YS hr hh.2;have:u=.int .i64 n:=hh.1;simp_all
   ·cases h
  ·cases h
theorem YT {M}(ok:Ok M){id own cells}(ah:M.h id=some (.box own cells)):
  ∃M',M'.H=M.H∧M'.h=qX M.h id (.box false cells)∧Ok M'∧yS M M'∧M'.h id=some (.box false cells):=by
 cases own with
 |false=>exact⟨M,rfl,(yz ah).symm,ok,yS.refl M,ah⟩
 |true=>
  obtain⟨C,hC,hO⟩:=ok.obj id _ ah;have pn:yP (M.freeze id (.box false cells) C) (.box false cells) C:=by
   have x:yF M (M.freeze id (.box false cells) C):=⟨fun _ C h=>⟨C,h,C.le_refl⟩,fun _ h=>.inl h,fun _ h=>.inl h,fun _ _=>rfl,fun _ _=>rfl,fun _ _=>rfl⟩;obtain⟨B,vals,e,h1,h2,h3,h4,h5⟩:=hO.ext x fun _ _ _=>rfl
   exact⟨B,vals,e,h1,h2,h3,h4,fun _=>.inr (jR h1)⟩
  have:=zI.freeze_ok ok ah rfl hC rfl pn;exact⟨M.freeze id _ C,rfl,rfl,this.1,this.2,yE _ _ _⟩
theorem vGw {P}{M}{w}(ok:Ok M)(hM:M.H=w.heap){t}{x v}{lo hi mx u rx ig gF zh}
  (hx:zP M x rx) (jm:zg M lo ig) (iQ:zg M hi gF) (Eu:zg M mx zh) (h:yC (yk P M.h t x lo hi mx) v u):qH P (Instr.sliceAt t rx ig gF zh) M w v u:=by
 unfold yk at h;split at h
 ·rename_i e sh ty xs hu;cases zh with
  |some _=>exact Eu.elim
  |none=>
  obtain⟨hz,h⟩:=eM h;have hz:=Nat.eq_of_beq_eq_true hz;split at h
  ·rename_i ie l u' hc;obtain⟨rfl,rfl,rfl⟩:=je h;have mE:qB M.H (bif sh then M.G else M.F) (.sl ty) xs (fun _=>some rx):=hx;have zi:=mE;simp only[qB,Option.some.injEq] at zi;obtain⟨A,m,c,rfl,rfl,jh,_⟩:=zi;obtain⟨b1,b2,b3,b4,b5⟩:=Et (P:=P) (w:=w) (b:=true) jm iQ jh hc;refine qH.pure ok hM (YR hu (by rw[hz];exact ty.size_pos) b1) ?_;have key:=vAf mE b2 b3;rw[←hz] at key;show qB _ _ _ _ _;split
   ·rw[b4 rfl,b5 rfl] at key⊢
    simpa[qW] using key
   ·rw[b5 rfl] at key⊢;have:qW xs l (xs.length-l)=xs.drop l:=by simp only[qW];rw[List.take_of_length_le (by simp)]
    rw[this] at key;exact key
   ·rw[b4 rfl] at key⊢
    simpa[qW] using key
   ·exact key
  ·exact h.elim
 ·rename_i e id r hu;cases zh with
  |some _=>exact Eu.elim
  |none=>
  split at h
  ·rename_i own ty xs ah;obtain⟨hz,h⟩:=eM h;have hz:=Nat.eq_of_beq_eq_true hz;split at h
   ·rename_i ie l u' hc;obtain⟨rfl,rfl,rfl⟩:=je h;obtain⟨C,hC,hS⟩:=hx;obtain⟨C',aw,hO⟩:=ok.obj _ _ ah;rw[hC] at aw;cases aw;have hlen:=hO.1;have df:=hO.2.1;have key:∀pw m,pw+m≤C.len→wE M.H C pw m rx→NG C pw rx→rM (match hi with|none=>m|some _=>C.len-pw) lo hi=some (true,l,u')→
      qH P (Instr.sliceAt t rx ig gF none) M w (.c (.osl id (some (pw+l,u'-l)))) []:=by
     intro pw m hm lR fU jh;have hS0:=lR;clear hS;obtain⟨A,c,rfl,_⟩:=hS0;obtain⟨_,_,_,fU,Ev⟩:=fU;cases fU;have Oa:m≤c:=by
      obtain⟨A',c',e,Ob⟩:=lR;simp only[Value.slice.injEq] at e;obtain⟨rfl,_,rfl⟩:=e;cases hB:C.blk with
      |none=>rw[hB] at Ob;omega
      |some B=>rw[hB] at Ob;exact Ob.1
     have hb:∃k,(Instr.sliceBounds true m c ig gF none).run P w=.ok (l,u',c) w∧l≤u'∧u'≤k∧k≤c∧pw+k≤C.len:=by
      cases hi with
      |none=>
       obtain⟨b1,b2,b3,b4,b5⟩:=Et (P:=P) (w:=w) (b:=true) jm iQ Oa jh;exact⟨m,b1,b2,b3,Oa,hm⟩
      |some y=>
       have hk:C.len-pw≤c:=by omega
       obtain⟨b1,b2,b3,b4,b5⟩:=Et (P:=P) (w:=w) (b:=true) jm iQ hk jh;refine⟨C.len-pw,?_,b2,b3,hk,by omega⟩;cases gF with
       |none=>exact iQ.elim
       |some ry=>exact b1
     obtain⟨k,b1,b2,b3,b6,b7⟩:=hb;refine qH.pure ok hM (YR hu (by rw[hz];exact ty.size_pos) b1) ⟨C,hC,by omega,?_,_,_,_,rfl,by omega⟩;have:=wE.cut' lR b2 (by grind);rw[hz,←df];exact this
    cases r with
    | none => exact key 0 C.len (by omega) hS (by
      obtain⟨A,c,rfl,h⟩:=hS;refine⟨A,_,c,rfl,?_⟩;cases hB:C.blk with
      |none=>rw[hB] at h;omega
      | some B => rw [hB] at h; have := h.1; omega) (by
      unfold Nt at hc;rw[←hlen] at hc;cases hi<;>exact hc)
    | some p => exact key p.1 p.2 hS.1 hS.2.1 hS.2.2 (by
      unfold Nt at hc;rw[←hlen] at hc;cases hi<;>exact hc)
   ·exact h.elim
  ·exact h.elim
 ·rename_i e km m id hu;split at h
  ·rename_i own ty xs ah;obtain⟨hz,h⟩:=eM h;have hz:=Nat.eq_of_beq_eq_true hz;split at h
   ·skip
    rename_i a b ie l u' _ hc;obtain⟨ek,rfl,rfl⟩:=je h;simp only[Bool.and_eq_true,decide_eq_true_eq] at ek;obtain⟨⟨ek,h1⟩,h2⟩:=ek;subst ek;obtain⟨C,hC,hS⟩:=hx;obtain⟨C',aw,hO⟩:=ok.obj _ _ ah;rw[hC] at aw;cases aw;have hlen:=hO.1;obtain⟨A,c,rfl,hS⟩:=hS;have Oa:C.len≤c:=by
     cases hB:C.blk with
     |none=>rw[hB] at hS;omega
     |some B=>rw[hB] at hS;exact hS.1
    cases zh with
    |none=>exact Eu.elim
    |some rm=>
     have hrm:rm=.int km m:=Eu;subst hrm;obtain⟨b1,b2,b3,b4,b5⟩:=Et (P:=P) (w:=w) (b:=true) jm iQ (Nat.le_refl xs.length) hc;obtain⟨i,hi⟩:=lN (P:=P) (t:=e) (by rw[hz];exact ty.size_pos);cases ig with
     |none=>exact jm.elim
     |some rl=>cases gF with
      |none=>exact iQ.elim
      |some rh=>
       have hbb:∃k1 i1 k2 i2,rl=.int k1 i1∧rh=.int k2 i2∧0≤i1∧i1≤i2∧i2≤(xs.length:Int)∧l=i1.toNat∧u'=i2.toNat:=by
        unfold rM at hc;split at hc
        ·rename_i e1 _;cases e1
        ·rename_i e1;cases e1
        ·rename_i e1 _;cases e1
        ·rename_i k i k' i' e1 e2;cases e1;cases e2;simp only[Option.some.injEq,Prod.mk.injEq,Bool.and_eq_true,decide_eq_true_eq] at hc;obtain⟨⟨⟨q0,q1⟩,q2⟩,rfl,rfl⟩:=hc;exact⟨k,i,k',i',jm,iQ,q0,q1,q2,rfl,rfl⟩
        ·cases hc
       obtain⟨k1,i1,k2,i2,rfl,rfl,q0,q1,q2,rfl,rfl⟩:=hbb;have hr:∃v,(Instr.sliceAt t (.slice A C.len c) (some (.int k1 i1)) (some (.int k2 i2)) (some (.int km m))).run P w=.ok v w∧v.one1=true:=by
        refine⟨.slice (if m.toNat=i1.toNat then A else A.map (·.add (i1.toNat*P.cellsOf e))) (i2.toNat-i1.toNat) (m.toNat-i1.toNat),?_,rfl⟩;have e1:=uF (P:=P) (w:=w) (k:=km) (i:=m) (y:=c) (c:=.slice3Acap) (by omega) (by omega);have e2:=uF (P:=P) (w:=w) (k:=k2) (i:=i2) (y:=m.toNat) (c:=.slice3B) (by omega) (by omega);have e3:=uF (P:=P) (w:=w) (k:=k1) (i:=i1) (y:=i2.toNat) (c:=.slice3C) (by omega) (by omega);simp[Instr.sliceAt,run_underlying hu,Instr.slice,Instr.sliceBounds,e1,e2,e3,fR w hi]
       obtain⟨v,hr,hv⟩:=hr;exact qH.pure ok hM hr hv
   ·exact h.elim
  ·exact h.elim
 ·rename_i n e id off hu;cases zh with
  |some _=>exact Eu.elim
  |none=>
  obtain⟨hz,h⟩:=eM h;have hz:=Nat.eq_of_beq_eq_true hz;obtain⟨y,hy⟩:=lN (P:=P) (t:=e) (by omega);split at h
  ·rename_i own cells ah;obtain⟨C,B,hC,hB,rfl⟩:=hx;split at h
   ·obtain⟨_,h⟩:=eM h;obtain⟨rfl,rfl⟩:=vP h;have Oc:ig=none:=by cases ig with
     |none=>rfl
     |some _=>exact jm.elim
    have Od:gF=none:=by cases gF with
     |none=>rfl
     |some _=>exact iQ.elim
    subst Oc;subst Od;refine qH.pure ok hM (rv:=.slice (some ⟨B,off,none⟩) n n) ?_ ⟨C,B,hC,hB,rfl⟩;simp[Instr.sliceAt,run_underlying hu,hZ,Instr.sliceBounds,fR w hy,Addr.add_lit]
   ·split at h
    ·rename_i vs dU;split at h
     ·rename_i ns ie l u' Oe hc;obtain⟨rfl,rfl,rfl⟩:=eZ h;obtain⟨b1,b2,b3,b4,b5⟩:=Et (P:=P) (w:=w) (b:=false) jm iQ (Nat.le_refl n) hc;obtain⟨M',a1,a2,a3,a4,a5⟩:=YT ok ah;obtain⟨C1,fV,le⟩:=a4.ext.κ id C hC;obtain⟨C2,YU,hO⟩:=a3.obj id _ a5;rw[fV] at YU;cases YU;obtain⟨B',vals,ev,k1,k2,k3,k4,k5⟩:=hO;rw[le.blk,hB] at k1;cases k1;obtain⟨q1,q2,q3⟩:=Ei dU;have bb:=YK k4 dU;obtain⟨e1,e2⟩:=YS Oe bb;have hlen:ns.length=n:=by rw[e2] at q3;simpa[hz] using q3
      refine⟨.slice (some (if n=l then⟨B,off,none⟩ else⟨B,off+l*P.cellsOf e,none⟩)) (u'-l) (n-l),w,M',?_,rfl,rfl,rfl,a1.trans hM,by cases own with
       |true=>exact a2
       |false=>rw[a2];exact yz ah,a3,a4,?_⟩
      ·simp[Instr.sliceAt,run_underlying hu,hZ,b1,fR w hy,Addr.add_lit]
      ·show qB M'.H (bif true then M'.G else M'.F) (.sl (.int .i64)) (qW ns l (u'-l)) (fun _=>some _);simp only[qB,Option.some.injEq,Value.slice.injEq];have hl:=y8 (xs:=ns) (lo:=l) (n:=u'-l) (by omega);refine⟨_,_,_,⟨rfl,rfl,rfl⟩,hl.symm,by omega,?_⟩;by_cases e0:u'-l=0
       ·exact by grind
       ·refine .inr ⟨B,off+l*P.cellsOf e,by rw[if_neg (by omega)],k5 rfl,fun i hi=>?_⟩;obtain⟨bE,e3⟩:=IX hi;rw[e3,hz];simp only[qB,Ty.size,Nat.mul_one,Nat.add_zero,yH,k3];have e4:(vals.extract off (off+n)).toList[l+i]? =(ns.map (Value.int .i64 ·))[l+i]? :=by rw[e1]
        simp only[Array.getElem?_toList,List.getElem?_map,List.getElem?_eq_getElem bE,Option.map_some] at e4;rw[Array.getElem?_extract] at e4;split at e4
        ·rw[Nat.add_assoc];exact e4
        ·cases e4
     ·exact h.elim
    ·exact h.elim
  ·exact h.elim
 ·exact h.elim
end Go.Ab
