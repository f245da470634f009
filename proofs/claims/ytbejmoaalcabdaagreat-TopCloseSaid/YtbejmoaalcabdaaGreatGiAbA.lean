/- part 0 -/
import Derived.Calls
import Derived.Orders
import Derived.KernelRfl
import Derived.Laws.Append
import Derived.Laws.AppendOwn
import Derived.Laws.MakeOwn
import Derived.Laws.IdiomCopy
import Derived.Laws.StructEq
import Derived.Laws.CopyRow
import Derived.ChangeKeysEq
set_option linter.unusedVariables false
namespace Go.Ab
inductive Ty where
 |int (k:IntKind)|bool|sl (t:Ty)|pair (a b:Ty)
abbrev Ty.den:Ty→Type
 |.int _=>Int|.bool=>Bool|.sl t=>List t.den|.pair a b=>a.den×b.den
def Ty.size:Ty→Nat
 |.int _=>1|.bool=>1|.sl _=>1|.pair a b=>a.size+b.size
def Ty.flat:Ty→Bool
 |.int _|.bool=>true|.sl _=>false|.pair a b=>a.flat&&b.flat
def Ty.dflt:(t:Ty)→t.den
 |.int _=>(0:Int)|.bool=>false|.sl t=>([]:List t.den)|.pair a b=>(a.dflt,b.dflt)
def jz:IntKind→IntKind→Bool
 |.i8,.i8|.i16,.i16|.i32,.i32|.i64,.i64|.u8,.u8|.u16,.u16|.u32,.u32|.u64,.u64=>true
 |_,_=>false
theorem rU {a b:IntKind}(h:jz a b=true):a=b:=by cases a<;>cases b<;>first|rfl|cases h
def od:Ty→Ty→Bool
 |.int j,.int k=>jz j k
 |.bool,.bool=>true
 |.sl a,.sl b=>od a b
 |.pair a b,.pair c d=>od a c&&od b d
 |_,_=>false
theorem xq:∀{a b:Ty},od a b=true→a=b
 |.int j,.int k,h=>congrArg Ty.int (rU h)
 |.bool,.bool,_=>rfl
 |.sl a,.sl b,h=>congrArg Ty.sl (xq (a:=a) (b:=b) h)
 |.pair a b,.pair c d,h=>by
  simp only[od,Bool.and_eq_true] at h
  rw[xq h.1,xq h.2]
 |.int _,.bool,h|.int _,.sl _,h|.int _,.pair _ _,h|.bool,.int _,h|.bool,.sl _,h|.bool,.pair _ _,h
 |.sl _,.int _,h|.sl _,.bool,h|.sl _,.pair _ _,h|.pair _ _,.int _,h|.pair _ _,.bool,h|.pair _ _,.sl _,h=>by cases h
def fD (a b:Ty)(xs:List a.den):Option (List b.den):=
 if h:od a b=true then some (xq h▸xs) else none
inductive zG where
 |undef
 |int (k:IntKind) (n:Int)
 |bool (b:Bool)
 |fsl (sh:Bool) (t:Ty) (xs:List t.den)
 |nfl (sh:Bool) (t:Ty) (xs:List t.den)
 |nsl
 |osl (id:Nat) (r:Option (Nat×Nat))
 |bsl (id off len:Nat)
 |ptr (id off:Nat)
 |eptr (id i off:Nat)
 |fptr (sh:Bool) (t:Ty) (x:t.den) (off:Nat)
 |mrow (id i ver:Nat)
 |mptr (id i:Nat)
 |meptr (id i j ver:Nat)
 |nilp|nilf|nilm
 |fn (f:Nat) (cap:List Nat)
 |map (id:Nat)
 |str (xs:List Int)
inductive zD where
 |undef
 |skp
 |c (v:zG)
 |agg (vs:List zG)
 |tup (xs:List (Bool×List zG))
inductive Obj where
 |box (own:Bool) (cells:List zG)
 |robox (cells:List zG)
 |arr (own:Bool) (t:Ty) (xs:List t.den)
 |mat (ver:Nat) (xs:List (List Int))
 |pmat (ver:Nat) (xs:List (List Int)) (n:Nat)
 |imap (cX:List (Int×Bool))
 |gone
abbrev Hp:=Nat→Option Obj
abbrev zZ:=List (Nat×Obj)
def yG (h:Hp)(id:Nat)(o:Obj):Hp:=fun n=>bif Nat.beq n id then some o else h n
def qJ (h:Hp):zZ→Hp
 |[]=>h
 |(id,o)::u=>qJ (yG h id o) u
structure St where
 t:Nat→zD
 h:Hp
def wX (t:Nat→zD)(d:Nat)(v:zD):Nat→zD:=fun n=>bif Nat.beq n d then v else t n
def gM (t:Nat→zD)(d:Option Nat)(v:zD):Nat→zD:=match d with
 |some d=>wX t d v
 |none=>t
inductive yE where
 |alts (l:List (Bool×zD×zZ))
 |call (X:Type) (x:Option X) (f:X→zD×zZ)
 |call2 (X Y:Type) (x:Option (X⊕Y)) (f:X→zD×zZ) (g:Y→zD×zZ)
def yE.stuck:yE:=.alts []
def yE.one (v:zD):yE:=.alts [(true,v,[])]
def yE.when (c:Bool)(v:zD):yE:=.alts [(c,v,[])]
def Mm {R:Type}(K:zD→zZ→Option R):List (Bool×zD×zZ)→Option R
 |[]=>none
 |(c,v,u)::l=>bif c then K v u else Mm K l
def yE.elim {R:Type}(s:yE)(K:zD→zZ→Option R):Option R:=match s with
 |.alts l=>Mm K l
 |.call _ x f=>x.bind fun r=>K (f r).1 (f r).2
 |.call2 _ _ x f g=>x.bind fun r=>match r with
  |.inl a=>K (f a).1 (f a).2
  |.inr b=>K (g b).1 (g b).2
def ub:Value→zG
 |.int k n=>.int k n
 |.bool b=>.bool b
 |.slice none 0 0=>.nsl
 |.pointer none=>.nilp
 |.nilFunc=>.nilf
 |.map none=>.nilm
 |_=>.undef
def uc:Value→Bool
 |.agg _|.tuple _=>false
 |_=>true
def Mn:Value→zD
 |.agg cs=>bif cs.toList.all uc then .agg (cs.toList.map ub) else .undef
 |.tuple _=>.undef
 |v=>.c (ub v)
def St.ev (st:St):Operand→zD
 |.tmp t=>st.t t
 |.const v=>Mn v
 |.global _=>.undef
 |.func f=>.c (.fn f [])
def cellsOf (sh:Bool):(t:Ty)→t.den→List zG
 |.int k,n=>[.int k n]
 |.bool,b=>[.bool b]
 |.sl t,xs=>[.fsl sh t xs]
 |.pair a b,p=>cellsOf sh a p.1++cellsOf sh b p.2
def Mo (k:IntKind):Nat→zG→Option Int
 |0,.int j n=>bif jz j k then some n else none
 |_,_=>none
def Mp:Nat→zG→Option Bool
 |0,.bool b=>some b
 |_,_=>none
def Mq (t:Ty):Nat→zG→Option (List t.den)
 |0,.fsl true s xs=>fD s t xs
 |0,.nsl=>some []
 |_,_=>none
def py:(t:Ty)→t.den→Nat→zG→Option t.den
 |.int k,_,off,v=>Mo k off v
 |.bool,_,off,v=>Mp off v
 |.sl t,_,off,v=>Mq t off v
 |.pair a b,p,off,v=>bif Nat.blt off a.size then(match py a p.1 off v with|some x=>some (x,p.2)|none=>none)
   else(match py b p.2 (off-a.size) v with|some y=>some (p.1,y)|none=>none)
def pz (t:Ty):t.den→Nat→List zG→Option t.den
 |x,_,[]=>some x
 |x,off,v::vs=>match py t x off v with
  |some y=>pz t y (off+1) vs
  |none=>none
def CD (t:Ty)(vs:List zG):Option t.den:=bif Nat.beq vs.length t.size then pz t t.dflt 0 vs else none
def yB {α:Type}(xs:List α)(lo n:Nat):List α:=(xs.drop lo).take n
def ga {α:Type}(xs:List α):Option (Nat×Nat)→List α
 |none=>xs
 |some (lo,n)=>yB xs lo n
def fE:List (Option Ty)→Option Ty
 |[]=>none
 |[t]=>t
 |a::l=>match a,fE l with
  |some x,some y=>some (.pair x y)
  |_,_=>none
def Gn (P:Program):Nat→TypeId→Option Ty
 |0,_=>none
 |d+1,t=>match P.underlying t with
  |some (.int k)=>some (.int k)
  |some .bool=>some .bool
  |some (.slice e)=>(Gn P d e).map .sl
  |some (.struct fs)=>fE (fs.toList.map fun f=>Gn P d f.type)
  |some (.array n e)=>fE (List.replicate n (Gn P d e))
  |_=>none
def fb:Ty→List Value
 |.int k=>[.int k 0]
 |.bool=>[.bool false]
 |.sl _=>[.slice none 0 0]
 |.pair a b=>fb a++fb b
def Mr:Value→Value→Bool
 |.int j a,.int k b=>jz j k&&decide (a=b)
 |.bool a,.bool b=>bif a then b else !b
 |.slice none 0 0,.slice none 0 0=>true
 |_,_=>false
def CE:List Value→List Value→Bool
 |[],[]=>true
 |a::l,b::m=>Mr a b&&CE l m
 |_,_=>false
def gO (P:Program)(e:TypeId):Option Ty:=match Gn P 8 e,P.info? e with
 |some t,some i=>match i.zero with
  |some z=>bif Nat.beq i.size t.size&&CE z.cells.toList (fb t) then some t else none
  |none=>none
 |_,_=>none
def gb (P:Program)(t:TypeId):Option Bool:=match P.underlying t with
 |some (.struct _)|some (.array _ _)=>some true
 |some _=>some false
 |none=>none
def zeroCells (P:Program)(t:TypeId):Option (List zG):=match P.info? t with
 |some i=>match i.zero with
  |some v=>bif Nat.beq v.cells.size i.size&&v.cells.toList.all uc then some (v.cells.toList.map ub) else none
  |none=>none
 |none=>none
def oe (agg:Option Bool)(vs:List zG):Option zD:=match agg with
 |some true=>some (.agg vs)
 |some false=>match vs with
  |[v]=>some (.c v)
  |_=>none
 |none=>none
def yE.ofO:Option zD→yE
 |some v=>.one v
 |none=>.stuck
def kD (cells:List zG)(off n:Nat):Option (List zG):=
 bif Nat.ble (off+n) cells.length then some ((cells.drop off).take n) else none
def ud (cells:List zG)(off:Nat):List zG→Option (List zG)
 |[]=>some cells
 |v::vs=>bif Nat.blt off cells.length then ud (cells.set off v) (off+1) vs else none
def l9:zD→Option (List zG)
 |.c v=>some [v]
 |.agg vs=>some vs
 |_=>none
def ue (f:(n:Nat)→BitVec n→BitVec n→BitVec n)(k:IntKind)(x y:Int):Int:=
 k.wrap (f k.bits (BitVec.ofInt k.bits x) (BitVec.ofInt k.bits y)).toNat
def Wn (op:BinOp)(k:IntKind)(x y:Int):yE:=match op with
 |.add=>.one (.c (.int k (k.wrap (x+y))))
 |.sub=>.one (.c (.int k (k.wrap (x-y))))
 |.mul=>.one (.c (.int k (k.wrap (x*y))))
 |.quo=>.when (!decide (y=0)) (.c (.int k (k.wrap (x.tdiv y))))
 |.rem=>.when (!decide (y=0)) (.c (.int k (x.tmod y)))
 |.and=>.one (.c (.int k (ue (fun _ a b=>a&&&b) k x y)))
 |.or=>.one (.c (.int k (ue (fun _ a b=>a|||b) k x y)))
 |.xor=>.one (.c (.int k (ue (fun _ a b=>a^^^b) k x y)))
 |.andNot=>.one (.c (.int k (ue (fun _ a b=>a&&&~~~b) k x y)))
 |.eql=>.one (.c (.bool (decide (x=y))))
 |.neq=>.one (.c (.bool (!decide (x=y))))
 |.lss=>.one (.c (.bool (decide (x<y))))
 |.leq=>.one (.c (.bool (decide (x≤y))))
 |.gtr=>.one (.c (.bool (decide (x>y))))
 |.geq=>.one (.c (.bool (decide (x≥y))))
 |_=>.stuck
def Wo (op:BinOp)(k:IntKind)(x y:Int):yE:=match op with
 |.shl=>.when (!decide (y<0)) (.c (.int k (k.wrap (x*2^(min y.toNat k.bits)))))
 |.shr=>.when (!decide (y<0)) (.c (.int k (x.fdiv (2^(min y.toNat k.bits)))))
 |_=>.stuck
def rV (a b:Bool):Bool:=bif a then b else !b
def Ms:List zG→List zG→Option Bool
 |[],[]=>some true
 |[.int j a],[.int k b]=>bif jz j k then some (decide (a=b)) else none
 |.int j a::l,.int k b::m=>bif jz j k then(match Ms l m with|some r=>some (decide (a=b)&&r)|none=>none) else none
 |[.bool a],[.bool b]=>some (rV a b)
 |.bool a::l,.bool b::m=>match Ms l m with|some r=>some (rV a b&&r)|none=>none
 |_,_=>none
def Wp (P:Program)(rec:TypeId→Option (List (Option IntKind))):Nat→List Field→Option (List (Option IntKind))
 |_,[]=>some []
 | i, f :: l => bif Nat.beq f.offset i && !(f.name == "_") then (match rec f.type,Wp P rec (i+P.cellsOf f.type) l with
  |some a,some r=>bif Nat.beq a.length (P.cellsOf f.type)&&Nat.blt 0 a.length then some (a++r) else none
  |_,_=>none) else none
def Wq {α:Type}:Nat→List α→List α
 |0,_=>[]
 |n+1,l=>l++Wq n l
def Mt (P:Program):Nat→TypeId→Option (List (Option IntKind))
 |0,_=>none
 |d+1,t=>match P.underlying t with
  |some (.int k)=>some [some k]
  |some .bool=>some [none]
  |some (.struct fs)=>Wp P (Mt P d) 0 fs.toList
  |some (.array n e)=>match Mt P d e with
   |some a=>bif Nat.beq a.length (P.cellsOf e)&&Nat.blt 0 a.length then some (Wq n a) else none
   |none=>none
  |_=>none
def vJh (P:Program)(t:TypeId):Option (List (Option IntKind)):=match P.underlying t with
 |some (.struct _)=>Mt P 8 t
 |_=>none
def Gp:List (Option IntKind)→List zG→Bool
 |[],[]=>true
 |some k::l,.int j _::cs=>jz j k&&Gp l cs
 |none::l,.bool _::cs=>Gp l cs
 |_,_=>false
def Mu (P:Program)(t:TypeId)(a b:List zG):Option Bool:=match vJh P t with
 |some ks=>bif Gp ks a&&Gp ks b then Ms a b else none
 |none=>none
def Mv (d:TypeDesc)(y:Operand)(x:zG):Option Bool:=match d,y,x with
 |.slice _,.const (.slice none 0 0),.nsl=>some true
 |.slice _,.const (.slice none 0 0),.nfl _ _ _=>some false
 |.pointer _,.const (.pointer none),.nilp=>some true
 |.pointer _,.const (.pointer none),.ptr _ _|.pointer _,.const (.pointer none),.eptr _ _ _|.pointer _,.const (.pointer none),.fptr _ _ _ _=>some false
 |.func _ _ _,.const .nilFunc,.nilf=>some true
 |.func _ _ _,.const .nilFunc,.fn _ _=>some false
 |.map _ _,.const (.map none),.nilm=>some true
 |.map _ _,.const (.map none),.map _=>some false
 |_,_,_=>none
def CF:BinOp→Bool→Bool
 |.eql,b=>b
 |_,b=> !b
def Wr:BinOp→Bool
 |.eql|.neq=>true
 |_=>false
def Ws:Operand→Bool
 |.const (.slice none 0 0)|.const (.pointer none)|.const .nilFunc|.const (.map none)=>true
 |_=>false
def kE (xs:List Int):List UInt8:=xs.map fun n=>UInt8.ofNat n.toNat
def CG (xs ys:List Int):Bool:=kE xs==kE ys
def Gq (P:Program)(t:TypeId):Bool:=match P.underlying t with
 |some .bool=>true
 |_=>false
def Mw (P:Program)(eqT:TypeId→Bool)(op:BinOp)(fF:TypeId)(ox oy:Operand)(x y:zD):yE:=match op,x,y with
 |.shl,.c (.int k a),.c (.int _ b)|.shr,.c (.int k a),.c (.int _ b)=>Wo op k a b
 |_,.c (.int k a),.c (.int j b)=>bif jz k j then Wn op k a b else .stuck
 |.eql,.c (.bool a),.c (.bool b)=>bif Gq P fF then .one (.c (.bool (rV a b))) else .stuck
 |.neq,.c (.bool a),.c (.bool b)=>bif Gq P fF then .one (.c (.bool (!rV a b))) else .stuck
 |.eql,.c (.str a),.c (.str b)=>.one (.c (.bool (CG a b)))
 |.neq,.c (.str a),.c (.str b)=>.one (.c (.bool (!CG a b)))
 |.eql,.agg a,.agg b=>bif eqT fF then(match Mu P fF a b with|some r=>.one (.c (.bool r))|none=>.stuck) else .stuck
 |.neq,.agg a,.agg b=>bif eqT fF then(match Mu P fF a b with|some r=>.one (.c (.bool (!r)))|none=>.stuck) else .stuck
 |_,_,_=>.stuck
def Mx (op:UnOp)(x:zD):yE:=match op,x with
 |.not,.c (.bool b)=>.one (.c (.bool (!b)))
 |.neg,.c (.int k n)=>.one (.c (.int k (k.wrap (0-n))))
 |_,_=>.stuck
def ig (h:Hp):zG→Option ((t:Ty)×List t.den)
 |.fsl _ t xs=>some ⟨t,xs⟩
 |.osl id r=>match h id with
  |some (.arr _ t xs)=>some ⟨t,ga xs r⟩
  |some (.mat _ xs)=>match r with
   |none=>some ⟨.sl (.int .i64),xs⟩
   |some _=>none
  |_=>none
 |.mrow id i ver=>match h id with
  |some (.mat v xs)=>bif Nat.beq v ver then some ⟨.int .i64,xs.getD i []⟩ else none
  |_=>none
 |_=>none
def xr (h:Hp):zG→Option (List Int)
 |.nsl=>some []
 |c=>match ig h c with
  |some ⟨.int .u8,xs⟩=>some xs
  |_=>none
def xu (h:Hp)(v:zG):Option Nat:=match v with
 |.nsl=>some 0
 |.bsl _ _ n=>some n
 |v=>match ig h v with
  |some ⟨_,xs⟩=>some xs.length
  |none=>none
def ma (h:Hp):zG→Option (zG×zZ)
 |.osl id r=>match h id with
  |some (.arr _ t xs)=>some (.fsl true t (ga xs r),[(id,.arr false t xs)])
  |some (.mat _ xs)=>match r with
   |none=>some (.fsl true (.sl (.int .i64)) xs,[(id,.arr false (.sl (.int .i64)) xs)])
   |some _=>none
  |_=>none
 |.mrow _ _ _=>none
 |v=>some (v,[])
def lq (h:Hp):List zG→Option (List zG×zZ)
 |[]=>some ([],[])
 |v::vs=>match ma h v,lq h vs with
  |some (v,u),some (vs,us)=>some (v::vs,u++us)
  |_,_=>none
def zE (i:Int)(n:Nat):Bool:=decide (0≤i)&&decide (i<(n:Int))
def xv (i:Int)(mk:Nat→zG):Nat→Nat→List (Bool×zD×zZ)
 |_,0=>[]
 |j,n+1=>(decide (i=(j:Int)),.c (mk j),[])::xv i mk (j+1) n
def CH (P:Program)(t:TypeId)(cells:List zG)(off:Nat):yE:=.ofO ((kD cells off (P.cellsOf t)).bind (oe (gb P t)))
def xw (P:Program)(h:Hp)(t:TypeId)(a:zD):yE:=
 match a with
 |.c (.ptr id off)=>match h id with
  |some (.box _ cells)=>CH P t cells off
  |some (.robox cells)=>CH P t cells off
  |_=>.stuck
 |.c (.fptr sh ty x off)=>CH P t (cellsOf sh ty x) off
 |.c (.eptr id i off)=>match h id with
  |some (.arr _ ty xs)=>CH P t (cellsOf true ty (xs.getD i ty.dflt)) off
  |_=>.stuck
 |.c (.mptr id i)=>match h id with
  |some (.mat ver _)=>match gb P t with|some false=>.one (.c (.mrow id i ver))|_=>.stuck
  |_=>.stuck
 |.c (.meptr id i j ver)=>match h id with
  |some (.mat v xs)=>bif Nat.beq v ver then(match gb P t with|some false=>.one (.c (.int .i64 ((xs.getD i []).getD j 0)))|_=>.stuck) else .stuck
  |_=>.stuck
 |_=>.stuck
def xx (P:Program)(h:Hp)(t:TypeId)(a v:zD):yE:=
 match l9 v with
 |none=>.stuck
 | some vs => bif Nat.beq vs.length (P.cellsOf t) && Nat.blt 0 vs.length then (match a with
  |.c (.ptr id off)=>match h id with
   |some (.box true cells)=>match ud cells off vs with
    |some cells=>.alts [(true,.undef,[(id,.box true cells)])]
    |none=>.stuck
   |_=>.stuck
  |.c (.eptr id i off)=>match h id,lq h vs with
   |some (.arr true ty xs),some (vs,u)=>match pz ty (xs.getD i ty.dflt) off vs with
    |some x=>bif u.any (fun p=>Nat.beq p.1 id) then .stuck else .alts [(true,.undef,u++[(id,.arr true ty (xs.set i x))])]
    |none=>.stuck
   |_,_=>.stuck
  |.c (.mptr id i)=>match h id,v with
   |some (.mat ver xs),.c (.osl jd none)=>match h jd with
    |some (.arr true (.int .i64) ys)=>.alts [(true,.undef,[(jd,.gone),(id,.mat (ver+1) (xs.set i ys))])]
    |_=>.stuck
   |some (.pmat ver xs n),.c (.osl jd none)=>match h jd with
    |some (.arr true (.int .i64) ys)=>.alts [(Nat.beq i xs.length,.undef,[(jd,.gone),(id,.pmat (ver+1) (xs++[ys]) n)])]
    |_=>.stuck
   |_,_=>.stuck
  |.c (.meptr id i j ver)=>match h id,v with
   |some (.mat v xs),.c (.int .i64 n)=>bif Nat.beq v ver then .alts [(true,.undef,[(id,.mat v (xs.set i ((xs.getD i []).set j n)))])] else .stuck
   |_,_=>.stuck
  |_=>.stuck) else .stuck
def My (P:Program)(s:TypeId)(a:zD)(f:Nat):yE:=match P.underlying s with
 |some (.struct fs)=>match fs[f]? with
  | some fd => bif Nat.beq (P.cellsOf fd.type) 0 then .stuck else (match a with
   |.c (.ptr id off)=>.one (.c (.ptr id (off+fd.offset)))
   |.c (.eptr id i off)=>.one (.c (.eptr id i (off+fd.offset)))
   |.c (.fptr sh t x off)=>.one (.c (.fptr sh t x (off+fd.offset)))
   |_=>.stuck)
  |none=>.stuck
 |_=>.stuck
def xy (P:Program)(h:Hp)(t:TypeId)(x i:zD):yE:=match P.underlying t,x,i with
 |some (.slice e),.c v,.c (.int _ i)=>match v with
  |.fsl sh ty xs=>bif Nat.beq (P.cellsOf e) ty.size then .when (zE i xs.length) (.c (.fptr sh ty (xs.getD i.toNat ty.dflt) 0)) else .stuck
  |.osl id r=>match h id with
   | some (.arr _ ty xs) => bif Nat.beq (P.cellsOf e) ty.size then (match r with
    |none=>.when (zE i xs.length) (.c (.eptr id i.toNat 0))
    |some (lo,n)=>.when (zE i n) (.c (.eptr id (lo+i.toNat) 0))) else .stuck
   | some (.mat _ xs) => bif Nat.beq (P.cellsOf e) 1 then (match r with
    |none=>.when (zE i xs.length) (.c (.mptr id i.toNat))
    |some _=>.stuck) else .stuck
   | some (.pmat _ _ n) => bif Nat.beq (P.cellsOf e) 1 then (match r with
    |none=>.when (zE i n) (.c (.mptr id i.toNat))
    |some _=>.stuck) else .stuck
   |_=>.stuck
  | .mrow id j ver => bif Nat.beq (P.cellsOf e) 1 then (match h id with
   |some (.mat v xs)=>bif Nat.beq v ver then .when (zE i (xs.getD j []).length) (.c (.meptr id j i.toNat ver)) else .stuck
   |_=>.stuck) else .stuck
  |_=>.stuck
 |some (.array n e),.c (.ptr id off),.c (.int _ i)=>bif Nat.beq (P.cellsOf e) 0 then .stuck else .alts (xv i (fun j=>.ptr id (off+j*P.cellsOf e)) 0 n)
 |some (.array n e),.c (.eptr id q off),.c (.int _ i)=>bif Nat.beq (P.cellsOf e) 0 then .stuck else .alts (xv i (fun j=>.eptr id q (off+j*P.cellsOf e)) 0 n)
 |some (.array n e),.c (.fptr sh t x off),.c (.int _ i)=>bif Nat.beq (P.cellsOf e) 0 then .stuck else .alts (xv i (fun j=>.fptr sh t x (off+j*P.cellsOf e)) 0 n)
 |_,_,_=>.stuck
def Mz (P:Program)(t:TypeId)(x i:zD):yE:=match P.underlying t,x,i with
 |some (.array n e),.agg cs,.c (.int _ i)=>bif Nat.beq (P.cellsOf e) 1&&(match gb P e with|some false=>true|_=>false)&&Nat.beq cs.length n
   then .alts (xv i (fun j=>cs.getD j .undef) 0 n) else .stuck
 |_,_,_=>.stuck
def MA (P:Program)(s:TypeId)(x:zD)(f:Nat):yE:=match P.underlying s,x with
 |some (.struct fs),.agg cs=>match fs[f]? with
  |some fd=>match kD cs fd.offset (P.cellsOf fd.type) with
   |some vs=>.ofO (oe (gb P fd.type) vs)
   |none=>.stuck
  |none=>.stuck
 |_,_=>.stuck
def CI (place:Nat→Option (Nat×Nat))(cells:List zG):List (Nat×zD)→Option (List zG)
 |[]=>some cells
 |(i,v)::rest=>match place i,l9 v with
  | some (off, size), some vs => bif Nat.beq vs.length size && Nat.ble (off + size) cells.length then (match ud cells off vs with
   |some cells=>CI place cells rest
   |none=>none) else none
  |_,_=>none
def MB (P:Program)(t:TypeId)(parts:List (Nat×zD)):yE:=match zeroCells P t with
 |none=>.stuck
 |some zero=>match P.underlying t with
  | some (.struct fs) => bif fs.toList.all (fun f => (P.info? f.type).isSome) then (match CI (fun i=>(fs[i]?).map fun f=>(f.offset,P.cellsOf f.type)) zero parts with
   |some cells=>.one (.agg cells)
   |none=>.stuck) else .stuck
  | some (.array _ e) => bif (P.info? e).isSome then (match CI (fun i=>some (i*P.cellsOf e,P.cellsOf e)) zero parts with
   |some cells=>.one (.agg cells)
   |none=>.stuck) else .stuck
  |_=>.stuck
def uf (h:Hp):zD→Option (List Int×zZ)
 |.c (.osl jd none)=>match h jd with
  |some (.arr true (.int .i64) ys)=>some (ys,[(jd,.gone)])
  |_=>none
 |.c .nsl=>some ([],[])
 |_=>none
def ug (h:Hp)(rows:List (List Int)):List (Nat×zD)→Option (List (List Int)×zZ)
 |[]=>some (rows,[])
 |(i,v)::rest=>match uf h v with
  |some (r,u)=>match ug h (rows.set i r) rest with
   |some (rows,us)=>some (rows,u++us)
   |none=>none
  |none=>none
def mb (h:Hp)(t:Ty)(xs:List t.den):List (Nat×zD)→Option (List t.den×zZ)
 |[]=>some (xs,[])
 |(i,v)::rest=>match l9 v with
  |some vs=>match lq h vs with
   |some (vs,u)=>match CD t vs with
    |some x=>match mb h t (xs.set i x) rest with
     |some (xs,us)=>some (xs,u++us)
     |none=>none
    |none=>none
   |none=>none
  |none=>none
def pA:List Nat→Bool
 |[]=>true
 |a::l=> !(l.any (Nat.beq a))&&pA l
def xz (P:Program)(mat:Bool)(nm:Nat)(h:Hp)(t:TypeId)(n:Nat)(parts:List (Nat×zD)):yE:=
 match P.underlying t,h nm with
 |some (.slice e),none=>bif Nat.ble (n*P.cellsOf e) 16777216 then
   (bif mat then (match gO P e,ug h (List.replicate n []) parts with
    |some (.sl (.int .i64)),some (rows,u)=>bif pA (u.map (·.1))&&parts.all (fun p=>Nat.blt p.1 n) then .alts [(true,.c (.osl nm none),u++[(nm,.mat 0 rows)])] else .stuck
    |_,_=>.stuck)
   else (match gO P e with
    |some ty=>match mb h ty (List.replicate n ty.dflt) parts with
     |some (xs,u)=>bif parts.all (fun p=>Nat.blt p.1 n) then .alts [(true,.c (.osl nm none),u++[(nm,.arr true ty xs)])] else .stuck
     |none=>.stuck
    |none=>.stuck)) else .stuck
 |_,_=>.stuck
def xA (P:Program)(mat:Bool)(nm:Nat)(h:Hp)(t:TypeId)(l c:zD):yE:=
 match P.underlying t,h nm,l,c with
 |some (.slice e),none,.c (.int .i64 l),.c (.int .i64 c)=>
   let ok:=decide (0≤l)&&decide (l≤c)&&decide (c*(P.bytesOf e:Int)≤140737488355328)&&decide (c≤140737488355328)
   bif mat then (match gO P e with
    |some (.sl (.int .i64))=>.alts [(ok,.c (.osl nm none),[(nm,.mat 0 (List.replicate l.toNat []))])]
    |_=>.stuck)
   else (match gO P e with
    |some ty=>.alts [(ok,.c (.osl nm none),[(nm,.arr true ty (List.replicate l.toNat ty.dflt))])]
    |none=>.stuck)
 |_,_,_,_=>.stuck
def CJ (P:Program)(t:TypeId):Bool:=match P.underlying t with
 | some (.map k e) => (match P.underlying k,(P.info? e).bind (·.zero) with
  |some (.int .i64),some (.bool false)=>true
  |_,_=>false)
 |_=>false
def xB (P:Program)(nm:Nat)(h:Hp)(t:TypeId):yE:=
 match h nm with
 |none=>bif CJ P t then .alts [(true,.c (.map nm),[(nm,.imap [])])] else .stuck
 |some _=>.stuck
def xC (P:Program)(h:Hp)(t:TypeId)(x i:zD):yE:=
 match x,i with
 | .c (.map id), .c (.int .i64 n) => (match h id with
  |some (.imap cX)=>bif CJ P t then .one (.c (.bool ((cX.lookup n).getD false))) else .stuck
  |_=>.stuck)
 |_,_=>.stuck
def xD (P:Program)(h:Hp)(t:TypeId)(x i v:zD):yE:=
 match x,i,v with
 | .c (.map id), .c (.int .i64 n), .c (.bool b) => (match h id with
  |some (.imap cX)=>bif CJ P t then .alts [(true,.undef,[(id,.imap ((n,b)::cX))])] else .stuck
  |_=>.stuck)
 |_,_,_=>.stuck
def rW (len:Nat)(lo hi:Option zD):Option (Bool×Nat×Nat):=
 match lo,hi with
 |none,none=>some (true,0,len)
 |some (.c (.int _ l)),none=>some (decide (0≤l)&&decide (l≤(len:Int)),l.toNat,len)
 |none,some (.c (.int _ u))=>some (decide (0≤u)&&decide (u≤(len:Int)),0,u.toNat)
 |some (.c (.int _ l)),some (.c (.int _ u))=>some (decide (0≤l)&&decide (l≤u)&&decide (u≤(len:Int)),l.toNat,u.toNat)
 |_,_=>none
def uh:List zG→Option (List Int)
 |[]=>some []
 |.int .i64 n::l=>match uh l with|some r=>some (n::r)|none=>none
 |_=>none
def MC (len:Nat):Option (Nat×Nat)→Option zD→Nat
 |none,_=>len
 |some p,none=>p.2
 |some p,some _=>len-p.1
def xE (P:Program)(h:Hp)(t:TypeId)(x:zD)(lo hi mx:Option zD):yE:=
 match P.underlying t,mx,x with
 | some (.slice e), none, .c (.fsl sh ty xs) => bif Nat.beq (P.cellsOf e) ty.size then (match rW xs.length lo hi with
  | some (ok, l, u) => .when ok (.c (.fsl sh ty (match lo,hi with
   |none,none=>xs
   |some _,none=>xs.drop l
   |none,some _=>xs.take u
   |some _,some _=>yB xs l (u-l))))
  |none=>.stuck) else .stuck
 |some (.slice e),none,.c (.osl id r)=>match h id with
  | some (.arr _ ty xs) => bif Nat.beq (P.cellsOf e) ty.size then (match rW (MC xs.length r hi) lo hi with
   |some (ok,l,u)=>.when ok (.c (.osl id (some ((match r with|none=>0|some p=>p.1)+l,u-l))))
   |none=>.stuck) else .stuck
  |_=>.stuck
 |some (.slice e),some (.c (.int _ m)),.c (.osl id none)=>match h id with
  | some (.arr _ ty xs) => bif Nat.beq (P.cellsOf e) ty.size then (match lo,hi,rW xs.length lo hi with
   |some _,some _,some (ok,_,u)=>.when (ok&&decide ((u:Int)≤m)&&decide (m≤(xs.length:Int))) (.c .undef)
   |_,_,_=>.stuck) else .stuck
  |_=>.stuck
 | some (.array n e), none, .c (.ptr id off) => bif Nat.beq (P.cellsOf e) 1 then (match h id with
  |some (.box own cells)=>match lo,hi with
   |none,none=>bif Nat.ble (off+n) cells.length then .one (.c (.bsl id off n)) else .stuck
   |_,_=>match kD cells off n with
    |some vs=>match uh vs,rW n lo hi with
     |some ns,some (ok,l,u)=>.alts [(ok,.c (.fsl true (.int .i64) (yB ns l (u-l))),bif own then[(id,.box false cells)] else[])]
     |_,_=>.stuck
    |none=>.stuck
  |_=>.stuck) else .stuck
 |_,_,_=>.stuck
def pB (h:Hp)(t:Ty):zG→Option (List t.den×zZ)
 |.nsl=>some ([],[])
 |.fsl sh s xs=>bif sh||s.flat then(fD s t xs).map (·,[]) else none
 |.nfl sh s xs=>bif sh||s.flat then(fD s t xs).map (·,[]) else none
 |.osl id r=>match h id with
  |some (.arr _ s xs)=>(fD s t (ga xs r)).map (·,[])
  |_=>none
 |_=>none
def xF (P:Program)(mat:Bool)(nm:Nat)(h:Hp)(t:TypeId)(b x:zD):yE:=
 match P.underlying t,h nm,b,x with
 |some (.slice e),none,.c b,.c x=>match gO P e with
  |none=>.stuck
  |some ty=>
   let room (n:Nat):Bool:=Nat.ble (n*P.bytesOf e) 140737488355328&&Nat.ble n 140737488355328
   bif mat then (match ty,b,x with
    |.sl (.int .i64),.osl id none,.osl jd none=>match h id,h jd with
     |some (.mat _ xs),some (.mat _ ys)=>bif Nat.beq id jd then .stuck else
       .alts [(room (xs.length+ys.length),.c (.osl nm none),[(id,.gone),(jd,.gone),(nm,.mat 0 (xs++ys))])]
     |_,_=>.stuck
    |_,_,_=>.stuck)
   else (match b with
    |.nsl=>match pB h ty x with
     |some (ys,u)=>.alts [(room ys.length,.c (.osl nm none),u++[(nm,.arr true ty ys)])]
     |none=>.stuck
    |.osl id r=>match h id with
     |some (.arr true s fG)=>match fD s ty (ga fG r),pB h ty x with
      | some xs, some (ys, u) => (match r with
       | some (0, _) | none => (bif (match x with | .osl jd _ => Nat.beq id jd | _ => false) then (match r,x,fD s ty fG with
         |some (0,i),.osl _ (some (j,m)),some zs=>.alts [(Nat.ble i j,.c (.osl nm (some (0,i+m))),[(id,.gone),(nm,.arr true ty (zs.take i++yB zs j m++zs.drop (i+m)))])]
         |_,_,_=>.stuck) else
         .alts [(room (xs.length+ys.length),.c (.osl nm none),u++[(id,.gone),(nm,.arr true ty (xs++ys))])])
       |_=>.stuck)
      |_,_=>.stuck
     |_=>.stuck
    |_=>.stuck)
 |_,_,_,_=>.stuck
def rY (xs:List Int):Nat→List zG→List zG
 |_,[]=>[]
 |i,.int .i64 n::cs=>.int .i64 (bif Nat.blt i xs.length then xs.getD i 0 else n)::rY xs (i+1) cs
 |i,c::cs=>c::rY xs (i+1) cs
def xG (h:Hp)(d s:zD):yE:=match d,s with
 |.c (.bsl id off n),.c s=>match h id,(match s with|.nsl=>some ⟨.int .i64,[]⟩|s=>ig h s:Option ((t:Ty)×List t.den)) with
  |some (.box true cells),some ⟨.int .i64,ys⟩=>match kD cells off n with
   |some vs=>match uh vs with
    |some _=>.alts [(true,.c (.int .i64 ((min ys.length n:Nat):Int)),[(id,.box true (cells.take off++rY ys 0 vs++cells.drop (off+n)))])]
    |none=>.stuck
   |none=>.stuck
  |_,_=>.stuck
 |_,_=>.stuck
def Gr (P:Program)(h:Hp)(t:TypeId)(id lo n:Nat):yE:=match P.underlying t,h id with
 |some (.slice e),some (.arr true s xs)=>match gO P e with
  |some ty=>bif od ty s then .alts [(true,.undef,[(id,.arr true s (xs.take lo++List.replicate n s.dflt++xs.drop (lo+n)))])] else .stuck
  |none=>.stuck
 |_,_=>.stuck
def Gs (lt:Bool):List zD→yE
 |[.c (.int k x),.c (.int _ y)]=>.one (.c (.int k (bif lt then(bif decide (y<x) then y else x) else(bif decide (y>x) then y else x))))
 |[.c (.int k x),.c (.int _ y),.c (.int _ z)]=>
  let m (a b:Int):Int:=bif lt then(bif decide (b<a) then b else a) else(bif decide (b>a) then b else a)
  .one (.c (.int k (m (m x y) z)))
 |_=>.stuck
abbrev Gt:=Nat→Nat→Nat→List zD→Hp→yE
inductive CS where
 |int (k:IntKind)|bool|dat (sh:Bool) (t:Ty)|lit (v:zG)
inductive VS where
 |c (x:CS)|agg (l:List CS)
inductive OS where
 |box (own:Bool) (l:List CS)|robox (l:List CS)|arr (own:Bool) (t:Ty)|mat|pmat|imap
abbrev SL:List CS→Type
 |[]=>Unit
 |.int _::l=>Int×SL l
 |.bool::l=>Bool×SL l
 |.dat _ t::l=>List t.den×SL l
 |.lit _::l=>SL l
def VS.cells:VS→List CS
 |.c x=>[x]
 |.agg l=>l
abbrev SV:List (Nat×VS)→Type
 |[]=>Unit
 |s::l=>SL s.2.cells×SV l
abbrev OS.den:OS→Type
 |.box _ l=>SL l
 |.robox l=>SL l
 |.arr _ t=>List t.den
 |.mat=>List (List Int)
 |.pmat=>List (List Int)×Nat
 |.imap=>List (Int×Bool)
abbrev OL:List OS→Type
 |[]=>Unit
 |o::l=>o.den×OL l
structure zL where
 slots:List (Nat×VS)
 objs:List OS
 grow:List (Nat×Option Nat×Ty×Bool)
abbrev zL.den (S:zL):Type:=SV S.slots×OL S.objs
def Gu:List Nat→List Nat→Bool
 |[],[]=>true
 |a::l,b::m=>Nat.beq a b&&Gu l m
 |_,_=>false
def MD:zG→zG→Bool
 |.undef,_=>true
 |.nsl,.nsl|.nilp,.nilp|.nilf,.nilf|.nilm,.nilm=>true
 |.osl a none,.osl b none=>Nat.beq a b
 |.bsl a i n,.bsl b j m=>Nat.beq a b&&Nat.beq i j&&Nat.beq n m
 |.ptr a i,.ptr b j=>Nat.beq a b&&Nat.beq i j
 |.fn f c,.fn g d=>Nat.beq f g&&Gu c d
 |.map a,.map b=>Nat.beq a b
 |_,_=>false
def ij:(l:List CS)→List zG→Option (SL l)
 |[],[]=>some ()
 |.int k::l,.int j n::vs=>bif jz j k then(match ij l vs with|some d=>some (n,d)|none=>none) else none
 |.bool::l,.bool b::vs=>match ij l vs with|some d=>some (b,d)|none=>none
 | .dat sh t :: l, .fsl CK s xs :: vs => bif CK || !sh then (match fD s t xs,ij l vs with
  |some xs,some d=>some (xs,d)
  |_,_=>none) else none
 |.dat _ _::l,.nsl::vs=>match ij l vs with|some d=>some ([],d)|none=>none
 |.lit c::l,v::vs=>bif MD c v then ij l vs else none
 |_,_=>none
def ME (v:VS)(a:zD):Option (SL v.cells):=match v,a with
 |.c x,.c y=>ij [x] [y]
 |.agg l,.agg vs=>ij l vs
 |_,_=>none
def Gv (o:OS)(x:Obj):Option o.den:=match o,x with
 |.box own l,.box lr cells=>bif own==lr then ij l cells else none
 |.robox l,.robox cells=>ij l cells
 |.arr own t,.arr lr s xs=>bif own==lr then fD s t xs else none
 |.mat,.mat _ xs=>some xs
 |.pmat,.pmat _ xs n=>some (xs,n)
 |.imap,.imap cX=>some cX
 |_,_=>none
def mK:(l:List CS)→SL l→List zG
 |[],_=>[]
 |.int k::l,d=>.int k d.1::mK l d.2
 |.bool::l,d=>.bool d.1::mK l d.2
 |.dat sh t::l,d=>.fsl sh t d.1::mK l d.2
 |.lit c::l,d=>c::mK l d
def MF (v:VS)(d:SL v.cells):zD:=match v,d with
 |.c x,d=>match mK [x] d with|c::_=>.c c|[]=>.undef
 |.agg l,d=>.agg (mK l d)
def Gw (o:OS)(d:o.den):Obj:=match o,d with
 |.box own l,d=>.box own (mK l d)
 |.robox l,d=>.robox (mK l d)
 |.arr own t,xs=>.arr own t xs
 |.mat,xs=>.mat 0 xs
 |.pmat,d=>.pmat 0 d.1 d.2
 |.imap,cX=>.imap cX
def xH:(l:List (Nat×VS))→SV l→List (Nat×zD)
 |[],_=>[]
 |s::l,d=>(s.1,MF s.2 d.1)::xH l d.2
def mL:(l:List OS)→OL l→List Obj
 |[],_=>[]
 |o::l,d=>Gw o d.1::mL l d.2
def zV (base:Nat)(S:zL)(d:S.den):St:=
  { t:=fun n=>match(xH S.slots d.1).lookup n with|some v=>v|none=>.undef,
    h:=fun n=>bif Nat.ble base n then(mL S.objs d.2)[n-base]? else none}
inductive Ex where
 |normal|ret|exit (id:Nat)
def MG:Ex→Ex→Bool
 |.normal,.normal|.ret,.ret=>true
 |.exit a,.exit b=>Nat.beq a b
 |_,_=>false
abbrev mc:List (Ex×zL)→Type
 |[]=>Empty
 |[p]=>p.2.den
 |p::q::l=>p.2.den⊕mc (q::l)
abbrev lu:List zL→Type
 |[]=>Empty
 |[S]=>S.den
 |S::T::l=>S.den⊕lu (T::l)
structure qI where
 ins:List zL
 outs:List (Ex×zL)
 X:Type
 sum:Nat→lu ins→Option X
 elim:Nat→X→(R:Type)→(Ex→St→Option R)→Option R
structure qB where
 mats:List Nat
 loops:List (Nat×qI)
 unr:List (Nat×Nat)
 wise:Bool
structure qE where
 P:Program
 eqT:TypeId→Bool
 sums:Gt
def og (pre:Nat):Option Nat→Nat
 |some d=>pre+100*(d+1)
 |none=>pre
def rZ:zD→Option Nat
 |.c (.ptr id 0)=>some id
 |_=>none
def MH (P:Program)(mat:Bool)(nm:Nat)(h:Hp)(b:Builtin)(ts:Array TypeId)(l:List zD):yE:=match b with
 |.len=>match l with
  |[.c v]=>match(ts[0]?).bind P.underlying with
   |some (.slice _)=>match xu h v with
    |some n=>.one (.c (.int .i64 (n:Int)))
    |none=>.stuck
   |_=>.stuck
  |_=>.stuck
 |.append=>match l with
  |[b,x]=>match ts.toList with
   |[t,u]=>bif Nat.beq t u then xF P mat nm h t b x else .stuck
   |_=>.stuck
  |_=>.stuck
 |.copy=>match l with
  |[d,s]=>match(ts[0]?).bind P.underlying with
   |some (.slice e)=>bif Nat.beq (P.cellsOf e) 1 then xG h d s else .stuck
   |_=>.stuck
  |_=>.stuck
 |.clear=>match l with
  |[.c (.osl id (some (lo,n)))]=>match ts[0]? with
   |some t=>Gr P h t id lo n
   |none=>.stuck
  |_=>.stuck
 |.max=>Gs false l
 |.min=>Gs true l
 |_=>.stuck
def iX (E:qE)(A:qB)(k pre:Nat)(o:Oper)(ev:Operand→zD)(h:Hp):yE:=
 let nm:=og pre o.dst
 let mat:=match o.dst with|some d=>A.mats.any (Nat.beq d)|none=>false
 match o.op with
 |.move x|.assign x=>.one (ev x)
 |.pick c a b=>match ev c with
  |.c (.bool c)=>match ev a,ev b with
   |.c (.bool a),.c (.bool b)=>.one (.c (.bool (bif c then a else b)))
   |va,vb=>.alts [(c,va,[]),(true,vb,[])]
  |_=>.stuck
 |.alloc t=>match h nm,zeroCells E.P t with
  |none,some zs=>.alts [(true,.c (.ptr nm 0),[(nm,.box true zs)])]
  |_,_=>.stuck
 |.box t x=>match h nm,l9 (ev x) with
  |none,some vs=>.alts [(true,.c (.ptr nm 0),[(nm,.box (!mat) vs)])]
  |_,_=>.stuck
 |.build t parts=>MB E.P t (parts.toList.map fun p=>(p.1,ev p.2))
 |.buildSlice t n parts=>xz E.P mat nm h t n (parts.toList.map fun p=>(p.1,ev p.2))
 |.load t a=>xw E.P h t (ev a)
 |.store t a v=>xx E.P h t (ev a) (ev v)
 |.nilCheck x=>match ev x with
  |.c (.ptr a b)=>.one (.c (.ptr a b))
  |.c (.eptr a b c)=>.one (.c (.eptr a b c))
  |.c (.fptr s t x off)=>.one (.c (.fptr s t x off))
  |.c (.fn f c)=>.one (.c (.fn f c))
  |_=>.stuck
 |.binOp op t x y _=>
  bif Ws y && Wr op then (match E.P.underlying t,ev x with
   |some d,.c v=>match Mv d y v with
    |some b=>.one (.c (.bool (CF op b)))
    |none=>.stuck
   |_,_=>.stuck)
  else Mw E.P E.eqT op t x y (ev x) (ev y)
 |.unOp op _ x=>Mx op (ev x)
 |.convert s d x=>match E.P.underlying s,E.P.underlying d,ev x with
  |some (.int _),some (.int k),.c (.int _ n)=>.one (.c (.int k (k.wrap n)))
  |some (.slice e),some .string,.c c=>match E.P.underlying e,xr h c with
   |some (.int .u8),some xs=>.one (.c (.str xs))
   |_,_=>.stuck
  |_,_,_=>.stuck
 | .makeFunc (.func f) first captured => bif Nat.beq first.size 0 then (match captured.toList.mapM (fun x=>rZ (ev x)) with
   |some ids=>.one (.c (.fn f ids))
   |none=>.stuck) else .stuck
 |.makeSlice t l c=>xA E.P mat nm h t (ev l) (ev c)
 |.makeMap t none=>xB E.P nm h t
 |.lookup t x i false=>xC E.P h t (ev x) (ev i)
 |.mapUpdate t x i y=>xD E.P h t (ev x) (ev i) (ev y)
 |.slice t x lo hi mx=>xE E.P h t (ev x) (lo.map ev) (hi.map ev) (mx.map ev)
 |.fieldAddr t x f=>My E.P t (ev x) f
 |.field t x f=>MA E.P t (ev x) f
 |.indexAddr t x i=>xy E.P h t (ev x) (ev i)
 |.index t x i=>Mz E.P t (ev x) (ev i)
 |.extract t i=>match ev t with
  |.tup xs=>match xs[i]? with
   |some (g,vs)=>.ofO (oe (some g) vs)
   |none=>.stuck
  |_=>.stuck
 |.call c=>match c.callee with
  |.builtin b=>MH E.P mat nm h b c.argTypes (c.args.toList.map ev)
  |.value f=>match ev f with
   |.c (.fn f cap)=>E.sums k nm f (c.args.toList.map ev++cap.map fun id=>.c (.ptr id 0)) h
   |_=>.stuck
  |_=>.stuck
 |_=>.stuck
structure sb where
 i:Nat
 nm:Nat
 upd:List Nat
 refs:Option (List Nat)
def vA:zG→List Nat
 |.osl id _|.bsl id _ _|.ptr id _|.eptr id _ _|.mrow id _ _|.mptr id _|.meptr id _ _ _|.map id=>[id]
 |.fn _ cap=>cap
 |_=>[]
def yL:zD→List Nat
 |.c v=>vA v
 |.agg vs=>vs.flatMap vA
 |.tup xs=>xs.flatMap fun x=>x.2.flatMap vA
 |_=>[]
def yW:zD→Bool
 |.c (.ptr _ _)|.c (.map _)|.c (.eptr _ _ _)|.c (.mptr _ _)|.c (.meptr _ _ _ _)|.c (.bsl _ _ _)=>true
 |.c (.fn _ cap)=> !cap.isEmpty
 |_=>false
def MI:Op→Bool
 |.call {callee:=.value _,..}=>true
 |_=>false
def Wt:Op→Bool
 |.move _|.assign _|.nilCheck _|.fieldAddr _ _ _|.field _ _ _|.extract _ _=>true
 |_=>false
def oh (ev:Operand→zD)(o:Oper):Option (List Nat):=bif Wt o.op then some [] else
 let vals:=o.op.operands.toList.map ev
 bif MI o.op&&vals.any yW then none else some (vals.flatMap yL)
def Gx (a:List Nat):Option (List Nat)→Bool
 |none=> !a.isEmpty
 |some b=>a.any fun x=>b.any (Nat.beq x)
def lv (nm a:Nat):Bool:=Nat.ble nm a&&Nat.blt a (nm+100)
def pC (x y:sb):Bool:=Gx x.upd y.refs||Gx y.upd x.refs||x.upd.any (lv y.nm)||y.upd.any (lv x.nm)||x.upd.any fun a=>y.upd.any (Nat.beq a)
def lx (b:Array Nat)(i j:Nat):Bool:=(b.getD j 0).testBit i
def pD (ops:Array Oper)(i j:Nat):Bool:=match ops[i]?,ops[j]? with
 |some x,some y=>x.apart ops y
 |_,_=>false
def CL (ops:Array Oper):Bool:=ops.toList.zipIdx.all fun p=>p.1.after.toList.all fun e=> !Region.binds .any e||Nat.blt e.on p.2
def pE (na nt:Nat):Option Nat→Bool
 |some d=>Nat.ble na d&&Nat.blt d nt
 |none=>true
def jA (u:zZ):List Nat:=u.map (·.1)
section
variable (E:qE) (A:qB) (k pre na nt:Nat) {R:Type}
def Gy (o:Oper)(st:St)(K:zD→zZ→St→Option R):Option R:=
 bif pE na nt o.dst then
  (iX E A k pre o st.ev st.h).elim fun v u=>K v u {t:=gM st.t o.dst v,h:=qJ st.h u}
 else none
def Gz (ops:Array Oper)(j:Nat):Option Nat:=(ops[j]?).bind (·.dst)
def GA (ops:Array Oper)(o:Oper)(st:St)(yes no:St→Option R):Option R:=match o.guard with
 |none=>yes st
 |some (j,want)=>match Gz ops j with
  |none=>none
  |some s=>match st.t s with
   |.c (.bool b)=>bif b then(let st:={st with t:=wX st.t s (.c (.bool true))};bif want then yes st else no st)
     else(let st:={st with t:=wX st.t s (.c (.bool false))};bif want then no st else yes st)
   |.skp=>no st
   |_=>none
def CM (ops:Array Oper):List (Nat×Oper)→St→(St→Option R)→Option R
 |[],st,K=>K st
 |(_,o)::rest,st,K=>GA ops o st
   (fun st=>Gy E A k pre na nt o st fun _ _ st=>CM ops rest st K)
   (fun st=>bif pE na nt o.dst then CM ops rest {st with t:=gM st.t o.dst .skp} K else none)
def xI (ops:Array Oper)(b:Array Nat):List (Nat×Oper)→List sb→St→(St→Option R)→Option R
 |[],_,st,K=>K st
 |(i,o)::rest,done,st,K=>
  bif done.all fun d=>lx b d.i i||pD ops d.i i then GA ops o st
   (fun st=>let r:=oh st.ev o;Gy E A k pre na nt o st fun _ u st=>
    let x:sb:=⟨i,og pre o.dst,jA u,r⟩
    bif done.all fun d=>lx b d.i i|| !pC d x then xI ops b rest (x::done) st K else none)
   (fun st=>bif pE na nt o.dst then xI ops b rest (⟨i,og pre o.dst,[],some []⟩::done) {st with t:=gM st.t o.dst .skp} K else none)
  else none
def vD6:Option Obj→List Nat
 |some (.box _ cells)=>cells.flatMap vA
 |some (.robox cells)=>cells.flatMap vA
 |_=>[]
def xJ (h:Hp):Nat→List Nat→List Nat→List Nat
 |0,_,seen=>seen
 |_,[],seen=>seen
 |n+1,id::todo,seen=>bif seen.any (Nat.beq id) then xJ h n todo seen else xJ h n (vD6 (h id)++todo) (seen++[id])
def jH (id:Nat):List Nat→Nat→Option Nat
 |[],_=>none
 |a::l,i=>bif Nat.beq a id then some i else jH id l (i+1)
def sd (h:Hp)(ρ:Nat→Option Nat):zG→zG
 |.osl id r=>match ρ id with|some i=>.osl i r|none=>.undef
 |.bsl id a b=>match ρ id with|some i=>.bsl i a b|none=>.undef
 |.ptr id a=>match ρ id with|some i=>.ptr i a|none=>.undef
 |.eptr id a b=>match ρ id with|some i=>.eptr i a b|none=>.undef
 |.mrow id a ver=>match ρ id,h id with
  |some i,some (.mat v _)=>bif Nat.beq v ver then .mrow i a 0 else .undef
  |_,_=>.undef
 |.mptr id a=>match ρ id with|some i=>.mptr i a|none=>.undef
 |.meptr id a b ver=>match ρ id,h id with
  |some i,some (.mat v _)=>bif Nat.beq v ver then .meptr i a b 0 else .undef
  |_,_=>.undef
 |.map id=>match ρ id with|some i=>.map i|none=>.undef
 |.fn f cap=>match cap.mapM ρ with|some c=>.fn f c|none=>.undef
 |v=>v
def Wu (h:Hp)(ρ:Nat→Option Nat):zD→zD
 |.c v=>.c (sd h ρ v)
 |.agg vs=>.agg (vs.map (sd h ρ))
 |.tup xs=>.tup (xs.map fun x=>(x.1,x.2.map (sd h ρ)))
 |v=>v
def se (h:Hp)(ρ:Nat→Option Nat):Obj→Obj
 |.box own cells=>.box own (cells.map (sd h ρ))
 |.robox cells=>.robox (cells.map (sd h ρ))
 |.mat _ xs=>.mat 0 xs
 |.pmat _ xs n=>.pmat 0 xs n
 |o=>o
def fH:Nat:=1000000
def MJ (st:St)(s:Nat):Option Nat→St
 |none=>match st.t s with
  |.c c=>match ma st.h c with
   |some (c',u)=>{t:=wX st.t s (.c c'),h:=qJ st.h u}
   |none=>st
  |_=>st
 |some j=>match st.t s with
  |.c (.ptr id 0)=>match st.h id with
   |some (.box true cells)=>match cells[j]? with
    |some c=>match ma st.h c with
     |some (c',u)=>{st with h:=yG (qJ st.h u) id (.box true (cells.set j c'))}
     |none=>st
    |none=>st
   |_=>st
  |.agg cells=>match cells[j]? with
   |some c=>match ma st.h c with
    |some (c',u)=>{t:=wX st.t s (.agg (cells.set j c')),h:=qJ st.h u}
    |none=>st
   |none=>st
  |_=>st
def Wv:Ty→Bool
 |.bool=>true
 |_=>false
def MK (st:St)(nm:Nat)(g:Nat×Option Nat×Ty×Bool):St:=bif g.2.2.2&&Wv g.2.2.1 then MJ st g.1 g.2.1 else match g.2.1 with
 |none=>match st.t g.1 with
  |.c .nsl=>{t:=wX st.t g.1 (.c (.osl nm none)),h:=yG st.h nm (bif g.2.2.2 then .mat 0 [] else .arr true g.2.2.1 [])}
  |_=>st
 |some j=>match st.t g.1 with
  |.c (.ptr id 0)=>match st.h id with
   |some (.box true cells)=>match cells[j]? with
    |some .nsl=>{st with h:=yG (yG st.h nm (bif g.2.2.2 then .mat 0 [] else .arr true g.2.2.1 [])) id (.box true (cells.set j (.osl nm none)))}
    |_=>st
   |_=>st
  |_=>st
def GB (st:St):Nat→List (Nat×Option Nat×Ty×Bool)→Option St
 |_,[]=>some st
 |nm,g::l=>match st.h nm with
  |none=>GB (MK st nm g) (nm+1) l
  |some _=>none
def ui (base : Nat) (h : Hp) (ids : List Nat) : Hp := fun n => bif Nat.ble base n then (match ids[n-base]? with
 |some id=>(h id).map (se h fun i=>(jH i ids 0).map (base+·))
 |none=>none) else none
def GC (f:zD→zD)(t:Nat→zD):(l:List (Nat×VS))→Option (SV l)
 |[]=>some ()
 |s::l=>match ME s.2 (f (t s.1)),GC f t l with
  |some d,some ds=>some (d,ds)
  |_,_=>none
def GD (f:Obj→Obj)(h:Hp):(l:List OS)→List Nat→Option (OL l)
 |[],[]=>some ()
 |o::l,id::ids=>match(h id).bind fun x=>Gv o (f x),GD f h l ids with
  |some d,some ds=>some (d,ds)
  |_,_=>none
 |_,_=>none
def ML (g0 base n:Nat)(S:zL)(st:St):Option S.den:=match GB st g0 S.grow with
 |none=>none
 |some st=>
  let ids:=xJ st.h n (S.slots.flatMap fun s=>yL (st.t s.1)) []
  match GC (Wu st.h fun i=>(jH i ids 0).map (base+·)) st.t S.slots,GD (se st.h fun i=>(jH i ids 0).map (base+·)) st.h S.objs ids with
  |some a,some b=>some (a,b)
  |_,_=>none
def CN (S:zL)(st:St):Option S.den:=ML (pre+500000) (pre+fH) 400 S st
def xK:(l:List zL)→St→Option (lu l)
 |[],_=>none
 |[S],st=>CN pre S st
 |S::T::l,st=>match CN pre S st with
  |some d=>some (.inl d)
  |none=>match xK (T::l) st with
   |some d=>some (.inr d)
   |none=>none
def GG (base:Nat):(l:List zL)→lu l→(St→Option R)→Option R
 |[],_,_=>none
 |[S],d,K=>K (zV base S d)
 |S::T::l,d,K=>match d with
  |.inl d=>K (zV base S d)
  |.inr d=>GG base (T::l) d K
def CO:(l:List (Ex×zL))→Ex→St→Option (mc l)
 |[],_,_=>none
 |[p],e,st=>bif MG p.1 e then CN pre p.2 st else none
 |p::q::l,e,st=>match(bif MG p.1 e then CN pre p.2 st else none) with
  |some d=>some (.inl d)
  |none=>match CO (q::l) e st with
   |some d=>some (.inr d)
   |none=>none
def xL (base:Nat):(l:List (Ex×zL))→mc l→(Ex→St→Option R)→Option R
 |[],_,_=>none
 |[p],d,K=>K p.1 (zV base p.2 d)
 |p::q::l,d,K=>match d with
  |.inl d=>K p.1 (zV base p.2 d)
  |.inr d=>xL base (q::l) d K
def Ww (ins:List zL)(outs:List (Ex×zL)){X:Type}(kF:mc outs→X)(again:lu ins→Option X):Ex→St→Option X
 |.normal,st=>match xK pre ins st with
  |some d=>again d
  |none=>none
 |e,st=>match CO pre outs e st with
  |some o=>some (kF o)
  |none=>none
def uj:Code→Option Nat
 |.region id _ _=>some id
 |.seq a b=>match uj a with|some i=>some i|none=>uj b
 |.cond _ a b=>match uj a with|some i=>some i|none=>uj b
 |.block _ b|.loop b|.scope b=>uj b
 |_=>none
def sf (b:Code):Option qI:=match uj b with
 |some i=>A.loops.lookup i
 |none=>none
def yWk (b:Code):Nat:=match uj b with
 |some i=>(A.unr.lookup i).getD 0
 |none=>0
def MM (b:St→(Ex→St→Option R)→Option R):Nat→St→(Ex→St→Option R)→Option R
 |0,_,_=>none
 |n+1,st,K=>b st fun e st=>match e with
  |.normal=>MM b n st K
  |e=>K e st
def GH (c:Operand)(b:Bool)(st:St):St:=match A.wise,c with
 |true,.tmp s=>{st with t:=wX st.t s (.c (.bool b))}
 |_,_=>st
def gd:Code→St→(Ex→St→Option R)→Option R
 |.skip,st,K=>K .normal st
 |.region _ ops draw,st,K=>bif draw
   then bif !CL ops then none else xI E A k pre na nt ops (Region.before ops) (ops.toList.zipIdx.map fun p=>(p.2,p.1)) [] st (K .normal)
   else CM E A k pre na nt ops (ops.toList.zipIdx.map fun p=>(p.2,p.1)) st (K .normal)
 |.seq a b,st,K=>gd a st fun e st=>match e with
  |.normal=>gd b st K
  |e=>K e st
 |.cond c a b,st,K=>match st.ev c with
  |.c (.bool t)=>bif t then gd a (GH A c true st) K else gd b (GH A c false st) K
  |_=>none
 |.block id b,st,K=>gd b st fun e st=>match e with
  |.exit i=>bif Nat.beq i id then K .normal st else K (.exit i) st
  |e=>K e st
 |.loop b,st,K=>match sf A b with
  |none=>MM (gd b) (yWk A b) st K
  |some L=>match xK pre L.ins st with
   |none=>none
   |some d=>(L.sum k d).bind fun x=>L.elim (pre+fH) x R K
 |.exit id,st,K=>K (.exit id) st
 |.ret,st,K=>K .ret st
 |_,_,_=>none
def sg (st:St):ResultVar→Option zD
 |.tmp t=>some (st.t t)
 |.cell a t=>match st.t a with
  |.c (.ptr id off)=>match st.h id with
   |some (.box _ cells)=>match kD cells off (E.P.cellsOf t) with
    |some vs=>oe (gb E.P t) vs
    |none=>none
   |_=>none
  |_=>none
def xM:zD→Option (Bool×List zG)
 |.c v=>some (false,[v])
 |.agg vs=>some (true,vs)
 |_=>none
def GI (fn:Func)(st:St):Option zD:=match fn.results.toList with
 |[]=>some (.tup [])
 |[r]=>sg E st r
 |rs=>match rs.mapM (fun r=>(sg E st r).bind xM) with
  |some xs=>some (.tup xs)
  |none=>none
def GJ (args:List zD):Nat→zD:=fun n=>args.getD n .skp
def ik (fn:Func)(args:List zD)(h:Hp)(K:zD→St→Option R):Option R:=match fn.body with
 |none=>none
 |some code=>bif Nat.ble args.length fn.ntmps then gd E A k pre na fn.ntmps code {t:=GJ args,h:=h} fun e st=>match e with
  |.exit _=>none
  |_=>match GI E fn st with
   |some v=>K v st
   |none=>none
  else none
end
def _root_.Go.Value.one1:Value→Bool
 |.agg _|.tuple _=>false
 |_=>true
def yC (H:Array Go.Obj)(B o:Nat):Option Value:=match H[B]? with
 |some (.cells c _ _)=>c[o]?
 |_=>none
def qX (H:Array Go.Obj)(B:Nat):Nat:=match H[B]? with
 |some (.cells c _ _)=>c.size
 |_=>0
theorem pF (w:World)(B o:Nat):w.cell? ⟨B,o,none⟩=yC w.heap B o:=by
 simp only[World.cell?,yC]
 cases w.heap[B]? with
 |none=>rfl
 |some x=>cases x<;>rfl
theorem MN {H H':Array Go.Obj}{B:Nat}(h:H'[B]? =H[B]?)(o:Nat):yC H' B o=yC H B o:=by unfold yC;rw[h]
theorem xN {H H':Array Go.Obj}{B:Nat}(h:H'[B]? =H[B]?):qX H' B=qX H B:=by unfold qX;rw[h]
def zY (H:Array Go.Obj)(F:Nat→Prop):(t:Ty)→t.den→(Nat→Option Value)→Prop
 |.int k,n,rd=>rd 0=some (.int k n)
 |.bool,b,rd=>rd 0=some (.bool b)
 |.sl t,xs,rd=>∃A n c,rd 0=some (.slice A n c)∧n=xs.length∧n≤c∧
   ((xs=[]∧(A=none→c=0))∨∃B o,A=some ⟨B,o,none⟩∧F B∧∀i (h:i<xs.length),zY H F t xs[i] (fun j=>yC H B (o+i*t.size+j)))
 |.pair a b,p,rd=>zY H F a p.1 rd∧zY H F b p.2 (fun j=>rd (j+a.size))
theorem yQ {H H':Array Go.Obj}{F F':Nat→Prop}(hF:∀b,F b→F' b)(hs:∀b,F b→H'[b]? =H[b]?):
  ∀(t:Ty) (x:t.den) (rd eW:Nat→Option Value),(∀j,j<t.size→eW j=rd j)→zY H F t x rd→zY H' F' t x eW
 |.int k,n,rd,eW,hr,h=>by simp only[zY] at h⊢;rw[hr 0 (by simp[Ty.size])];exact h
 |.bool,n,rd,eW,hr,h=>by simp only[zY] at h⊢;rw[hr 0 (by simp[Ty.size])];exact h
 |.sl t,xs,rd,eW,hr,h=>by
  simp only[zY] at h⊢
  obtain⟨A,n,c,h1,h2,h3,h4⟩:=h
  refine⟨A,n,c,by rw[hr 0 (by simp[Ty.size])];exact h1,h2,h3,?_⟩
  rcases h4 with h4|⟨B,o,e,hB,h4⟩
  ·exact .inl h4
  ·exact .inr ⟨B,o,e,hF B hB,fun i hi=>yQ hF hs t _ _ _ (fun j _=>MN (hs B hB) _) (h4 i hi)⟩
 |.pair a b,p,rd,eW,hr,h=>by
  simp only[zY] at h⊢
  exact⟨yQ hF hs a _ _ _ (fun j hj=>hr j (by simp only[Ty.size];omega)) h.1,
   yQ hF hs b _ _ _ (fun j hj=>hr _ (by simp only[Ty.size];omega)) h.2⟩
theorem Ty.size_pos:∀t:Ty,0<t.size
 |.int _|.bool|.sl _=>by simp[Ty.size]
 |.pair a b=>by have:=Ty.size_pos a;simp only[Ty.size];omega
structure zS where
 blk:Option Nat
 len:Nat
 sz:Nat
 ver:Nat
 rows:List (Option Nat×Nat)
def zS.fp (C:zS):List Nat:=C.blk.toList++C.rows.filterMap (·.1)
structure zS.le (C C':zS):Prop where
 blk:C'.blk=C.blk
 len:C'.len=C.len
 sz:C'.sz=C.sz
 ver:C.ver≤C'.ver
 rows:C'.ver=C.ver→C'.rows=C.rows
theorem zS.le_refl (C:zS):C.le C:=⟨rfl,rfl,rfl,Nat.le_refl _,fun _=>rfl⟩
theorem zS.le_trans {A B C:zS}(h:A.le B)(k:B.le C):A.le C:=
 ⟨k.blk.trans h.blk,k.len.trans h.len,k.sz.trans h.sz,Nat.le_trans h.ver k.ver,fun e=>by
  have:=h.ver;have:=k.ver
  rw[k.rows (by omega),h.rows (by omega)]⟩
structure zB where
 κ:Nat→Option zS
 F:Nat→Prop
 G:Nat→Prop
 h:Hp
 H:Array Go.Obj
def zP {α β:Type}(R:α→β→Prop):List α→List β→Prop
 |[],[]=>True
 |a::l,b::m=>R a b∧zP R l m
 |_,_=>False
theorem zP.mono {α β:Type}{R S:α→β→Prop}(h:∀a b,R a b→S a b):∀{l:List α} {m:List β},zP R l m→zP S l m
 |[],[],_=>trivial
 |_::_,_::_,hh=>⟨h _ _ hh.1,zP.mono h hh.2⟩
 |[],_::_,hh=>hh.elim
 |_::_,[],hh=>hh.elim
theorem zP.length {α β:Type}{R:α→β→Prop}:∀{l:List α} {m:List β},zP R l m→l.length=m.length
 |[],[],_=>rfl
 |_::_,_::_,hh=>by simp[zP.length hh.2]
 |[],_::_,hh=>hh.elim
 |_::_,[],hh=>hh.elim
theorem zP.get {α β:Type}{R:α→β→Prop}:∀{l:List α} {m:List β},zP R l m→∀(i:Nat) (h:i<l.length) (h':i<m.length),R l[i] m[i]
 |_::_,_::_,hh,0,_,_=>hh.1
 |_::_,_::_,hh,i+1,h,h'=>zP.get hh.2 i (by simpa using h) (by simpa using h')
 |[],[],_,_,h,_=>by simp at h
 |[],_::_,hh,_,_,_=>hh.elim
 |_::_,[],hh,_,_,_=>hh.elim
theorem zP.of_get {α β:Type}{R:α→β→Prop}:∀{l:List α} {m:List β},l.length=m.length→(∀(i:Nat) (h:i<l.length) (h':i<m.length),R l[i] m[i])→zP R l m
 |[],[],_,_=>trivial
 |a::l,b::m,hl,h=>⟨h 0 (by simp) (by simp),zP.of_get (by simpa using hl) fun i h1 h2=>h (i+1) (by simpa using h1) (by simpa using h2)⟩
 |[],_::_,hl,_=>by simp at hl
 |_::_,[],hl,_=>by simp at hl
theorem zP.append {α β:Type}{R:α→β→Prop}:∀{l l':List α} {m m':List β},zP R l m→zP R l' m'→zP R (l++l') (m++m')
 |[],_,[],_,_,k=>k
 |_::_,_,_::_,_,h,k=>⟨h.1,zP.append h.2 k⟩
 |[],_,_::_,_,hh,_=>hh.elim
 |_::_,_,[],_,hh,_=>hh.elim
theorem zP.drop {α β:Type}{R:α→β→Prop}:∀(n:Nat) {l:List α} {m:List β},zP R l m→zP R (l.drop n) (m.drop n)
 |0,_,_,h=>h
 |n+1,[],[],_=>trivial
 |n+1,_::_,_::_,h=>zP.drop n h.2
 |n+1,[],_::_,hh=>hh.elim
 |n+1,_::_,[],hh=>hh.elim
theorem zP.take {α β:Type}{R:α→β→Prop}:∀(n:Nat) {l:List α} {m:List β},zP R l m→zP R (l.take n) (m.take n)
 |0,_,_,_=>by simp[zP]
 |n+1,[],[],_=>trivial
 |n+1,_::_,_::_,h=>⟨h.1,zP.take n h.2⟩
 |n+1,[],_::_,hh=>hh.elim
 |n+1,_::_,[],hh=>hh.elim
theorem zP.set {α β:Type}{R:α→β→Prop}{a:α}{b:β}(GK:R a b):∀(n:Nat) {l:List α} {m:List β},zP R l m→zP R (l.set n a) (m.set n b)
 |_,[],[],_=>trivial
 |0,_::_,_::_,h=>⟨GK,h.2⟩
 |n+1,_::_,_::_,h=>⟨h.1,zP.set GK n h.2⟩
 |_,[],_::_,hh=>hh.elim
 |_,_::_,[],hh=>hh.elim
def wH (H:Array Go.Obj)(C:zS)(lo n:Nat)(v:Value):Prop:=∃A c,v=.slice A n c∧match C.blk with
 |none=>A=none∧n=0∧c=0
 |some B=>n≤c∧∃a,A=some ⟨B,a,none⟩∧(c=0∨a=lo*C.sz)∧(lo+c)*C.sz≤qX H B
def kG (H:Array Go.Obj)(rb:Option Nat)(n:Nat)(v:Value):Prop:=match rb with
 |none=>v=.slice none 0 0∧n=0
 |some B=>∃a c,v=.slice (some ⟨B,a,none⟩) n c∧n≤c∧(c=0∨a=0)∧c≤qX H B
def MO (C:zS)(lo:Nat)(v:Value):Prop:=∃A n c,v=.slice A n c∧C.len≤lo+c
def zW (M:zB):zG→Value→Prop
 |.undef,v=>v.one1=true
 |.int k n,v=>v=.int k n
 |.bool b,v=>v=.bool b
 |.fsl sh t xs,v=>zY M.H (bif sh then M.G else M.F) (.sl t) xs (fun _=>some v)
 |.nsl,v=>v=.slice none 0 0
 |.nfl sh t xs,v=>(∃a n c,v=.slice (some a) n c)∧zY M.H (bif sh then M.G else M.F) (.sl t) xs (fun _=>some v)
 |.osl id r,v=>∃C,M.κ id=some C∧match r with
  |none=>wH M.H C 0 C.len v
  |some (lo,n)=>lo+n≤C.len∧wH M.H C lo n v∧MO C lo v
 |.bsl id off n,v=>∃C B,M.κ id=some C∧C.blk=some B∧v=.slice (some ⟨B,off,none⟩) n n
 |.ptr id off,v=>∃C B,M.κ id=some C∧C.blk=some B∧v=.pointer (some ⟨B,off,none⟩)
 |.eptr id i off,v=>∃C B,M.κ id=some C∧C.blk=some B∧i<C.len∧v=.pointer (some ⟨B,i*C.sz+off,none⟩)
 |.fptr sh t x off,v=>∃B o,v=.pointer (some ⟨B,o+off,none⟩)∧(bif sh then M.G else M.F) B∧zY M.H (bif sh then M.G else M.F) t x (fun j=>yC M.H B (o+j))
 |.mrow id i ver,v=>∃C,M.κ id=some C∧v.one1=true∧ver≤C.ver∧(C.ver=ver→∃rb rl,C.rows[i]? =some (rb,rl)∧kG M.H rb rl v)
 |.mptr id i,v=>∃C B,M.κ id=some C∧C.blk=some B∧i<C.len∧v=.pointer (some ⟨B,i,none⟩)
 |.meptr id i j ver,v=>∃C,M.κ id=some C∧v.one1=true∧ver≤C.ver∧(C.ver=ver→∃B rl,C.rows[i]? =some (some B,rl)∧j<rl∧v=.pointer (some ⟨B,j,none⟩))
 |.nilp,v=>v=.pointer none
 |.nilf,v=>v=.nilFunc
 |.nilm,v=>v=.map none
 |.fn f cap,v=>∃cv,v=.func (.func f) #[] cv∧zP (fun id u=>∃C B,M.κ id=some C∧C.blk=some B∧u=.pointer (some ⟨B,0,none⟩)) cap cv.toList
 |.map id,v=>∃C B,M.κ id=some C∧C.blk=some B∧v=.map (some B)
 |.str xs,v=>v=.string ⟨(kE xs).toArray⟩
theorem wH.one {H:Array Go.Obj}{C:zS}{lo n:Nat}{v:Value}(h:wH H C lo n v):v.one1=true:=by
 obtain⟨A,c,rfl,_⟩:=h;rfl
theorem zW.one {M:zB}{c:zG}{v:Value}(h:zW M c v):v.one1=true:=by
 cases c with
 |undef=>exact h
 |fsl sh t xs=>obtain⟨A,n,c,e,_⟩:=h;simp at e;rw[e];rfl
 |nfl sh t xs=>obtain⟨⟨a,n,c,e⟩,_⟩:=h;rw[e];rfl
 |osl id r=>
  obtain⟨C,_,h⟩:=h
  cases r with
  |none=>exact wH.one h
  |some p=>exact wH.one h.2.1
 |bsl id off n=>obtain⟨C,B,_,_,rfl⟩:=h;rfl
 |ptr id off=>obtain⟨C,B,_,_,rfl⟩:=h;rfl
 |eptr id i off=>obtain⟨C,B,_,_,_,rfl⟩:=h;rfl
 |fptr sh t x off=>obtain⟨B,o,rfl,_⟩:=h;rfl
 |mrow id i ver=>obtain⟨C,_,h,_⟩:=h;exact h
 |mptr id i=>obtain⟨C,B,_,_,_,rfl⟩:=h;rfl
 |meptr id i j ver=>obtain⟨C,_,h,_⟩:=h;exact h
 |fn f cap=>obtain⟨cv,rfl,_⟩:=h;rfl
 |map id=>obtain⟨C,B,_,_,rfl⟩:=h;rfl
 |_=>rw[show v=_ from h];rfl
def pG (M:zB)(x:Bool×List zG)(v:Value):Prop:=match x with
 |(false,[c])=>zW M c v
 |(true,cs)=>∃vs,v=.agg vs∧zP (zW M) cs vs.toList
 |_=>False
def zU (M:zB):zD→Value→Prop
 |.undef,_=>True
 |.skp,v=>v=undef
 |.c x,v=>zW M x v
 |.agg cs,v=>∃vs,v=.agg vs∧zP (zW M) cs vs.toList
 |.tup xs,v=>∃vs,v=.tuple vs∧zP (pG M) xs vs.toList
def Obj.owned:Obj→Bool
 |.box o _=>o
 |.arr o _ _=>o
 |.robox _=>false
 |.mat _ _=>true
 |.pmat _ _ _=>true
 |.imap _=>true
 |.gone=>false
def jD (n:Int):List MapEntry→Option Value
 |[]=>none
 |e::es=>match e.key with
  |.int .i64 m=>if n=m then some e.val else jD n es
  |_=>jD n es
def yR (M:zB)(o:Obj)(C:zS):Prop:=match o with
 |.box own cells=>∃B vals e,C.blk=some B∧C.rows=[]∧M.H[B]? =some (.cells vals e (0,0))∧zP (zW M) cells vals.toList∧(own=false→M.G B)
 |.robox cells=>∃B vals e,C.blk=some B∧C.rows=[]∧M.H[B]? =some (.cells vals e (0,0))∧zP (zW M) cells vals.toList∧M.F B
 | .arr own t xs => C.len = xs.length ∧ C.sz = t.size ∧ (own = true → C.rows = []) ∧ (match C.blk with
  |none=>xs=[]
  |some B=>∃vals e,M.H[B]? =some (.cells vals e (0,0))∧(own=false→M.G B)∧xs.length*t.size≤vals.size∧
    ∀i (h:i<xs.length),zY M.H M.G t xs[i] (fun j=>vals[i*t.size+j]?))
 | .mat ver xs => C.ver = ver ∧ C.len = xs.length ∧ C.sz = 1 ∧ C.rows.length = xs.length ∧ C.fp.Nodup ∧ (match C.blk with
  |none=>xs=[]
  |some B=>∃vals e,M.H[B]? =some (.cells vals e (0,0))∧xs.length≤vals.size∧
    ∀i (h:i<xs.length),∃rb v,C.rows[i]? =some (rb,xs[i].length)∧vals[i]? =some v∧kG M.H rb xs[i].length v∧
     (∀R,rb=some R→∃rv er,M.H[R]? =some (.cells rv er (0,0))∧∀j (h':j<xs[i].length),rv[j]? =some (.int .i64 xs[i][j])))
 | .pmat ver xs n => C.ver = ver ∧ C.len = n ∧ C.sz = 1 ∧ C.rows.length = xs.length ∧ C.fp.Nodup ∧ xs.length ≤ n ∧ (match C.blk with
  |none=>n=0
  |some B=>∃vals e,M.H[B]? =some (.cells vals e (0,0))∧n≤vals.size∧
    ∀i (h:i<xs.length),∃rb v,C.rows[i]? =some (rb,xs[i].length)∧vals[i]? =some v∧kG M.H rb xs[i].length v∧
     (∀R,rb=some R→∃rv er,M.H[R]? =some (.cells rv er (0,0))∧∀j (h':j<xs[i].length),rv[j]? =some (.int .i64 xs[i][j])))
 |.imap cX=>∃B es ck,C.blk=some B∧C.rows=[]∧M.H[B]? =some (.map es ck)∧(∀e∈es.toList,∃n b,e.key=.int .i64 n∧e.val=.bool b)∧
   ∀n,jD n es.toList=(cX.lookup n).map .bool
 |.gone=>True
def qR (M:zB)(b:Nat):Prop:=∃id o C,M.h id=some o∧o.owned=true∧M.κ id=some C∧b∈C.fp
structure Ok (M:zB):Prop where
 obj:∀id o,M.h id=some o→∃C,M.κ id=some C∧yR M o C
 non:∀id,M.h id=none→M.κ id=none
 disj:∀i j oi oj Ci Cj b,i≠j→M.h i=some oi→M.h j=some oj→oi.owned=true→oj.owned=true→M.κ i=some Ci→M.κ j=some Cj→b∈Ci.fp→b∈Cj.fp→False
 own:∀b,qR M b→¬M.F b∧b<M.H.size
 GF:∀b,M.G b→M.F b
 Flt:∀b,M.F b→b<M.H.size
structure yK (M M':zB):Prop where
 κ:∀id C,M.κ id=some C→∃C',M'.κ id=some C'∧C.le C'
 F:∀b,M.F b→M'.F b
 G:∀b,M.G b→M'.G b
 same:∀b,M.F b→M'.H[b]? =M.H[b]?
 sameG:∀b,M.G b→M'.H[b]? =M.H[b]?
 bsz:∀b,b<M.H.size→qX M'.H b=qX M.H b
theorem yV0 {H:Array Go.Obj}{b:Nat}(h:¬b<H.size):qX H b=0:=by
 unfold qX;rw[Array.getElem?_eq_none (by omega)]
theorem Wx {M M':zB}(x:yK M M')(b:Nat):qX M.H b≤qX M'.H b:=by
 by_cases h:b<M.H.size
 ·rw[x.bsz b h];exact Nat.le_refl _
 ·rw[yV0 h];omega
theorem wH.ext {M M':zB}(x:yK M M'){C C':zS}(le:C.le C'){lo n:Nat}{v:Value}(h:wH M.H C lo n v):wH M'.H C' lo n v:=by
 obtain⟨A,c,rfl,h⟩:=h
 refine⟨A,c,rfl,?_⟩
 rw[le.blk]
 cases hb:C.blk with
 |none=>rw[hb] at h;exact h
 |some B=>
  rw[hb] at h
  obtain⟨h0,a,h1,h2,h3⟩:=h
  exact⟨h0,a,h1,by rw[le.sz];exact h2,by rw[le.sz];exact Nat.le_trans h3 (Wx x B)⟩
theorem kG.ext {M M':zB}(x:yK M M'){rb:Option Nat}{n:Nat}{v:Value}(h:kG M.H rb n v):kG M'.H rb n v:=by
 cases rb with
 |none=>exact h
 |some B=>
  obtain⟨a,c,h1,h2,h3,h4⟩:=h
  exact⟨a,c,h1,h2,h3,Nat.le_trans h4 (Wx x B)⟩
theorem zW.ext {M M':zB}(x:yK M M'){c:zG}{v:Value}(h:zW M c v):zW M' c v:=by
 cases c with
 |fsl sh t xs=>
  cases sh with
  |true=>exact yQ x.G x.sameG _ _ _ _ (fun _ _=>rfl) h
  |false=>exact yQ x.F x.same _ _ _ _ (fun _ _=>rfl) h
 |nfl sh t xs=>
  cases sh with
  |true=>exact⟨h.1,yQ x.G x.sameG _ _ _ _ (fun _ _=>rfl) h.2⟩
  |false=>exact⟨h.1,yQ x.F x.same _ _ _ _ (fun _ _=>rfl) h.2⟩
 |osl id r=>
  obtain⟨C,hC,h⟩:=h
  obtain⟨C',ax,le⟩:=x.κ id C hC
  refine⟨C',ax,?_⟩
  cases r with
  |none=>rw[le.len];exact wH.ext x le h
  |some p=>exact⟨by rw[le.len];exact h.1,wH.ext x le h.2.1,by unfold MO;rw[le.len];exact h.2.2⟩
 |bsl id off n=>
  obtain⟨C,B,hC,hB,h⟩:=h
  obtain⟨C',ax,le⟩:=x.κ id C hC
  exact⟨C',B,ax,le.blk.trans hB,h⟩
 |ptr id off=>
  obtain⟨C,B,hC,hB,h⟩:=h
  obtain⟨C',ax,le⟩:=x.κ id C hC
  exact⟨C',B,ax,le.blk.trans hB,h⟩
 |eptr id i off=>
  obtain⟨C,B,hC,hB,hi,h⟩:=h
  obtain⟨C',ax,le⟩:=x.κ id C hC
  exact⟨C',B,ax,le.blk.trans hB,by rw[le.len];exact hi,by rw[le.sz];exact h⟩
 |fptr sh t y off=>
  obtain⟨B,o,h1,h2,h3⟩:=h
  cases sh with
  |true=>exact⟨B,o,h1,x.G B h2,yQ x.G x.sameG _ _ _ _ (fun j _=>MN (x.sameG B h2) _) h3⟩
  |false=>exact⟨B,o,h1,x.F B h2,yQ x.F x.same _ _ _ _ (fun j _=>MN (x.same B h2) _) h3⟩
 |mrow id i ver=>
  obtain⟨C,hC,h1,hle,h⟩:=h
  obtain⟨C',ax,le⟩:=x.κ id C hC
  have:=le.ver
  refine⟨C',ax,h1,by omega,fun e=>?_⟩
  obtain⟨rb,rl,h2,h3⟩:=h (by omega)
  exact⟨rb,rl,by rw[le.rows (by omega)];exact h2,kG.ext x h3⟩
 |mptr id i=>
  obtain⟨C,B,hC,hB,hi,h⟩:=h
  obtain⟨C',ax,le⟩:=x.κ id C hC
  exact⟨C',B,ax,le.blk.trans hB,by rw[le.len];exact hi,h⟩
 |meptr id i j ver=>
  obtain⟨C,hC,h1,hle,h⟩:=h
  obtain⟨C',ax,le⟩:=x.κ id C hC
  have:=le.ver
  refine⟨C',ax,h1,by omega,fun e=>?_⟩
  obtain⟨B,rl,h2,h3⟩:=h (by omega)
  exact⟨B,rl,by rw[le.rows (by omega)];exact h2,h3⟩
 |fn f cap=>
  obtain⟨cv,h1,h2⟩:=h
  refine⟨cv,h1,h2.mono fun id u ⟨C,B,hC,hB,hu⟩=>?_⟩
  obtain⟨C',ax,le⟩:=x.κ id C hC
  exact⟨C',B,ax,le.blk.trans hB,hu⟩
 |map id=>
  obtain⟨C,B,hC,hB,h⟩:=h
  obtain⟨C',ax,le⟩:=x.κ id C hC
  exact⟨C',B,ax,le.blk.trans hB,h⟩
 |_=>exact h
theorem pG.ext {M M':zB}(x:yK M M'){p:Bool×List zG}{v:Value}(h:pG M p v):pG M' p v:=by
 obtain⟨b,cs⟩:=p
 cases b with
 |true=>
  obtain⟨vs,h1,h2⟩:=h
  exact⟨vs,h1,h2.mono fun _ _ hc=>hc.ext x⟩
 |false=>
  cases cs with
  |nil=>exact h
  |cons c cs=>cases cs with
   |nil=>exact zW.ext (c:=c) x h
   |cons _ _=>exact h
theorem zU.ext {M M':zB}(x:yK M M'){a:zD}{v:Value}(h:zU M a v):zU M' a v:=by
 cases a with
 |undef=>trivial
 |skp=>exact h
 |c c=>exact zW.ext (c:=c) x h
 |agg cs=>
  obtain⟨vs,h1,h2⟩:=h
  exact⟨vs,h1,h2.mono fun _ _ hc=>hc.ext x⟩
 |tup xs=>
  obtain⟨vs,h1,h2⟩:=h
  exact⟨vs,h1,h2.mono fun _ _ hc=>hc.ext x⟩
theorem yR.ext {M M':zB}(x:yK M M'){o:Obj}{C:zS}(hb:o.owned=true→∀b∈C.fp,M'.H[b]? =M.H[b]?)(h:yR M o C):yR M' o C:=by
 cases o with
 |box own cells=>
  obtain⟨B,vals,e,h1,h2,h3,h4,h5⟩:=h
  have hs:M'.H[B]? =M.H[B]? :=by
   cases own with
   |true=>exact hb rfl B (by simp[zS.fp,h1])
   |false=>exact x.sameG B (h5 rfl)
  exact⟨B,vals,e,h1,h2,by rw[hs];exact h3,h4.mono fun _ _ hc=>hc.ext x,fun h=>x.G B (h5 h)⟩
 |robox cells=>
  obtain⟨B,vals,e,h1,h2,h3,h4,h5⟩:=h
  exact⟨B,vals,e,h1,h2,by rw[x.same B h5];exact h3,h4.mono fun _ _ hc=>hc.ext x,x.F B h5⟩
 |arr own t xs=>
  obtain⟨h1,h2,h3,h4⟩:=h
  refine⟨h1,h2,h3,?_⟩
  cases hB:C.blk with
  |none=>rw[hB] at h4;exact h4
  |some B=>
   rw[hB] at h4
   obtain⟨vals,e,h5,h6,h7,h8⟩:=h4
   have hs:M'.H[B]? =M.H[B]? :=by
    cases own with
    |true=>exact hb rfl B (by simp[zS.fp,hB])
    |false=>exact x.sameG B (h6 rfl)
   exact⟨vals,e,by rw[hs];exact h5,fun h=>x.G B (h6 h),h7,fun i hi=>yQ x.G x.sameG _ _ _ _ (fun _ _=>rfl) (h8 i hi)⟩
 |mat ver xs=>
  obtain⟨h1,h2,h3,h4,h5,h6⟩:=h
  refine⟨h1,h2,h3,h4,h5,?_⟩
  cases hB:C.blk with
  |none=>rw[hB] at h6;exact h6
  |some B=>
   rw[hB] at h6
   obtain⟨vals,e,h7,h8,h9⟩:=h6
   refine⟨vals,e,by rw[hb rfl B (by simp[zS.fp,hB])];exact h7,h8,fun i hi=>?_⟩
   obtain⟨rb,v,k1,k2,k3,k4⟩:=h9 i hi
   refine⟨rb,v,k1,k2,k3.ext x,fun R hR=>?_⟩
   obtain⟨rv,er,k5,k6⟩:=k4 R hR
   refine⟨rv,er,?_,k6⟩
   rw[hb rfl R ?_]
   ·exact k5
   ·have:(rb,xs[i].length)∈C.rows:=List.mem_of_getElem? k1
    simp only[zS.fp,List.mem_append,List.mem_filterMap]
    exact .inr ⟨_,this,hR⟩
 |pmat ver xs n=>
  obtain⟨h1,h2,h3,h4,h5,h0,h6⟩:=h
  refine⟨h1,h2,h3,h4,h5,h0,?_⟩
  cases hB:C.blk with
  |none=>rw[hB] at h6;exact h6
  |some B=>
   rw[hB] at h6
   obtain⟨vals,e,h7,h8,h9⟩:=h6
   refine⟨vals,e,by rw[hb rfl B (by simp[zS.fp,hB])];exact h7,h8,fun i hi=>?_⟩
   obtain⟨rb,v,k1,k2,k3,k4⟩:=h9 i hi
   refine⟨rb,v,k1,k2,k3.ext x,fun R hR=>?_⟩
   obtain⟨rv,er,k5,k6⟩:=k4 R hR
   refine⟨rv,er,?_,k6⟩
   rw[hb rfl R ?_]
   ·exact k5
   ·have:(rb,xs[i].length)∈C.rows:=List.mem_of_getElem? k1
    simp only[zS.fp,List.mem_append,List.mem_filterMap]
    exact .inr ⟨_,this,hR⟩
 |imap cX=>
  obtain⟨B,es,ck,h1,h2,h3,h4,h5⟩:=h
  exact⟨B,es,ck,h1,h2,by rw[hb rfl B (by simp[zS.fp,h1])];exact h3,h4,h5⟩
 |gone=>trivial
structure yT (M M':zB):Prop where
 ext:yK M M'
 size:M.H.size≤M'.H.size
 frame:∀b,b<M.H.size→¬qR M b→M'.H[b]? =M.H[b]?
 own:∀b,qR M' b→b<M.H.size→qR M b
 Gb:∀b,M'.G b→b<M.H.size→M.G b∨qR M b
 Fb:∀b,M'.F b→b<M.H.size→M.F b∨qR M b
theorem yK.refl (M:zB):yK M M:=⟨fun _ C h=>⟨C,h,C.le_refl⟩,fun _ h=>h,fun _ h=>h,fun _ _=>rfl,fun _ _=>rfl,fun _ _=>rfl⟩
theorem yT.refl (M:zB):yT M M:=⟨yK.refl M,Nat.le_refl _,fun _ _ _=>rfl,fun _ h _=>h,fun _ h _=>.inl h,fun _ h _=>.inl h⟩
theorem yK.trans {M M' kH:zB}(hs:M.H.size≤M'.H.size)(x:yK M M')(y:yK M' kH):yK M kH where
 κ id C h:=by
  obtain⟨C',h',le⟩:=x.κ id C h
  obtain⟨C'',h'',le'⟩:=y.κ id C' h'
  exact⟨C'',h'',zS.le_trans le le'⟩
 F b h:=y.F b (x.F b h)
 G b h:=y.G b (x.G b h)
 same b h:=(y.same b (x.F b h)).trans (x.same b h)
 sameG b h:=(y.sameG b (x.G b h)).trans (x.sameG b h)
 bsz b h:=(y.bsz b (by omega)).trans (x.bsz b h)
theorem yT.trans {M M' kH:zB}(x:yT M M')(y:yT M' kH):yT M kH where
 ext:=x.ext.trans x.size y.ext
 size:=Nat.le_trans x.size y.size
 frame b h hn:=by
  have:=x.size
  rw[y.frame b (by omega) fun ho=>hn (x.own b ho h),x.frame b h hn]
 own b ho h:=x.own b (y.own b ho (by have:=x.size;omega)) h
 Gb b hg h:=by
  rcases y.Gb b hg (by have:=x.size;omega) with k|k
  ·exact x.Gb b k h
  ·exact .inr (x.own b k h)
 Fb b hg h:=by
  rcases y.Fb b hg (by have:=x.size;omega) with k|k
  ·exact x.Fb b k h
  ·exact .inr (x.own b k h)
theorem Ok.build {M M':zB}(ok:Ok M)(x:yK M M')(T:Nat→Prop)
  (hh:∀id,¬T id→M'.h id=M.h id) (hκ:∀id,¬T id→M'.κ id=M.κ id)
  (keep:∀id o C,¬T id→M.h id=some o→o.owned=true→M.κ id=some C→∀b∈C.fp,M'.H[b]? =M.H[b]?)
  (CP:∀id o C,¬T id→M.h id=some o→o.owned=true→M.κ id=some C→∀b∈C.fp,¬M'.F b)
  (size:M.H.size≤M'.H.size)
  (obj:∀id o,T id→M'.h id=some o→∃C,M'.κ id=some C∧yR M' o C)
  (non:∀id,T id→M'.h id=none→M'.κ id=none)
  (disj:∀id o C b,T id→M'.h id=some o→o.owned=true→M'.κ id=some C→b∈C.fp→
   (∀j oj Cj,j≠id→M'.h j=some oj→oj.owned=true→M'.κ j=some Cj→b∉Cj.fp)∧¬M'.F b∧b<M'.H.size)
  (GF:∀b,M'.G b→M'.F b) (Flt:∀b,M'.F b→b<M'.H.size):Ok M' where
 obj id o h:=by
  by_cases hT:T id
  ·exact obj id o hT h
  ·rw[hh id hT] at h
   obtain⟨C,hC,hO⟩:=ok.obj id o h
   exact⟨C,by rw[hκ id hT];exact hC,hO.ext x fun ho=>keep id o C hT h ho hC⟩
 non id h:=by
  by_cases hT:T id
  ·exact non id hT h
  ·rw[hκ id hT];exact ok.non id (by rw[←hh id hT];exact h)
 disj i j oi oj Ci Cj b j0 hi hj MP MQ GL df sj MR:=by
  by_cases MS:T i
  ·exact(disj i oi Ci b MS hi MP GL sj).1 j oj Cj (Ne.symm j0) hj MQ df MR
  ·by_cases MT:T j
   ·exact(disj j oj Cj b MT hj MQ df MR).1 i oi Ci j0 hi MP GL sj
   ·rw[hh i MS] at hi;rw[hh j MT] at hj;rw[hκ i MS] at GL;rw[hκ j MT] at df
    exact ok.disj i j oi oj Ci Cj b j0 hi hj MP MQ GL df sj MR
 own b hb:=by
  obtain⟨id,o,C,h,ho,hC,hb⟩:=hb
  by_cases hT:T id
  ·exact(disj id o C b hT h ho hC hb).2
  ·rw[hh id hT] at h;rw[hκ id hT] at hC
   have:=ok.own b ⟨id,o,C,h,ho,hC,hb⟩
   exact⟨CP id o C hT h ho hC b hb,by omega⟩
 GF:=GF
 Flt:=Flt
def κset (κ:Nat→Option zS)(id:Nat)(C:zS):Nat→Option zS:=fun n=>if n=id then some C else κ n
theorem κset_same (κ:Nat→Option zS)(id:Nat)(C:zS):κset κ id C id=some C:=by simp[κset]
theorem κset_ne (κ:Nat→Option zS){id n:Nat}(C:zS)(h:n≠id):κset κ id C n=κ n:=by simp[κset,h]
theorem yH (h:Hp)(id:Nat)(o:Obj):yG h id o id=some o:=by simp[yG]
theorem yJ (h:Hp){id n:Nat}(o:Obj)(hn:n≠id):yG h id o n=h n:=by
 have:Nat.beq n id=false:=by
  cases hb:Nat.beq n id with
  |true=>exact absurd (Nat.eq_of_beq_eq_true hb) hn
  |false=>rfl
 simp only[yG,this,cond_false]
theorem ly {H:Array Go.Obj}{o:Go.Obj}{b:Nat}(h:b<H.size):(H.push o)[b]? =H[b]? :=by
 rw[Array.getElem?_push,if_neg (by omega)]
theorem uk {H:Array Go.Obj}{o:Go.Obj}:(H.push o)[H.size]? =some o:=by rw[Array.getElem?_push,if_pos rfl]
def zB.new (M:zB)(id:Nat)(o:Obj)(C:zS)(ob:Go.Obj):zB:={M with κ:=κset M.κ id C,h:=yG M.h id o,H:=M.H.push ob}
theorem zB.new_ext {M:zB}(ok:Ok M){id:Nat}(aa:M.h id=none)(o:Obj)(C:zS)(ob:Go.Obj):yK M (M.new id o C ob) where
 κ n D h:=by
  have:n≠id:=fun e=>by rw[e,ok.non id aa] at h;cases h
  exact⟨D,by simp only[zB.new];rw[κset_ne _ _ this];exact h,D.le_refl⟩
 F _ h:=h
 G _ h:=h
 same b h:=ly (ok.Flt b h)
 sameG b h:=ly (ok.Flt b (ok.GF b h))
 bsz b h:=xN (ly h)
theorem zB.new_ok {M:zB}(ok:Ok M){id:Nat}(aa:M.h id=none)(o:Obj)(C:zS)(ob:Go.Obj)(hC:∀b∈C.fp,b=M.H.size)
  (hO:yR (M.new id o C ob) o C):Ok (M.new id o C ob)∧yT M (M.new id o C ob):=by
 have x:=zB.new_ext ok aa o C ob
 have dM:(M.new id o C ob).H.size=M.H.size+1:=by simp[zB.new]
 have gf:∀b,qR (M.new id o C ob) b→b=M.H.size∨qR M b:=by
  rintro b ⟨n,q,D,h1,h2,h3,h4⟩
  by_cases e:n=id
  ·subst e
   simp only[zB.new,yH,κset_same,Option.some.injEq] at h1 h3
   subst h3
   exact .inl (hC b h4)
  ·simp only[zB.new] at h1 h3
   rw[yJ _ _ e] at h1;rw[κset_ne _ _ e] at h3
   exact .inr ⟨n,q,D,h1,h2,h3,h4⟩
 refine⟨ok.build x (· =id) (fun n hn=>yJ _ _ hn) (fun n hn=>κset_ne _ _ hn) ?_ ?_ (by omega) ?_ ?_ ?_ ok.GF ?_,x,by omega,?_,?_,?_,?_⟩
 ·intro n q D hn h1 h2 h3 b hb
  exact ly (ok.own b ⟨n,q,D,h1,h2,h3,hb⟩).2
 ·intro n q D hn h1 h2 h3 b hb
  exact(ok.own b ⟨n,q,D,h1,h2,h3,hb⟩).1
 ·rintro n q rfl h1
  simp only[zB.new,yH,Option.some.injEq] at h1
  subst h1
  exact⟨C,κset_same _ _ _,hO⟩
 ·rintro n rfl h1
  simp only[zB.new,yH] at h1
  cases h1
 ·rintro n q D b rfl h1 h2 h3 hb
  simp only[zB.new,κset_same,Option.some.injEq] at h3
  subst h3
  have eb:=hC b hb
  refine⟨fun j oj Cj hj k1 k2 k3 k4=>?_,fun hF=>?_,by omega⟩
  ·simp only[zB.new] at k1 k3
   rw[yJ _ _ hj] at k1;rw[κset_ne _ _ hj] at k3
   have:=(ok.own b ⟨j,oj,Cj,k1,k2,k3,k4⟩).2
   omega
  ·have:=ok.Flt b hF
   omega
 ·intro b hb
  have:=ok.Flt b hb
  omega
 ·intro b hb _
  exact ly hb
 ·intro b hb aV
  rcases gf b hb with e|e
  ·omega
  ·exact e
 ·exact fun b h _=>.inl h
 ·exact fun b h _=>.inl h
def zB.write (M:zB)(id:Nat)(o:Obj)(C:zS)(H:Array Go.Obj):zB:={M with κ:=κset M.κ id C,h:=yG M.h id o,H:=H}
theorem zB.write_ext {M:zB}(ok:Ok M){id:Nat}{o:Obj}{C C':zS}{H':Array Go.Obj}(aa:M.h id=some o)(aD:o.owned=true)(hC:M.κ id=some C)
    (hle:C.le C') (hH:∀b,b∉C.fp→H'[b]? =M.H[b]?) (cG:∀b,b<M.H.size→qX H' b=qX M.H b) (o':Obj):yK M (M.write id o' C' H'):=
  have sk:∀b,M.F b→b∉C.fp:=fun b hF hb=>(ok.own b ⟨id,o,C,aa,aD,hC,hb⟩).1 hF
  { κ:=fun n D h=>by
      by_cases e:n=id
      · subst e
        rw[hC] at h
        cases h
        exact⟨C',κset_same _ _ _,hle⟩
      · exact⟨D,by simp only[zB.write];rw[κset_ne _ _ e];exact h,D.le_refl⟩
    F:=fun _ h=>h
    G:=fun _ h=>h
    same:=fun b h=>hH b (sk b h)
    sameG:=fun b h=>hH b (sk b (ok.GF b h))
    bsz:=cG}
theorem zB.write_ok {M:zB}(ok:Ok M){id:Nat}{o o':Obj}{C C':zS}{H':Array Go.Obj}(aa:M.h id=some o)(aD:o.owned=true)(hC:M.κ id=some C)
  (hle:C.le C') (kI:∀b∈C'.fp,b∈C.fp) (dM:H'.size=M.H.size) (hH:∀b,b∉C.fp→H'[b]? =M.H[b]?) (cG:∀b,b<M.H.size→qX H' b=qX M.H b)
  (hO:yR (M.write id o' C' H') o' C'):Ok (M.write id o' C' H')∧yT M (M.write id o' C' H'):=by
 have x:=zB.write_ext ok aa aD hC hle hH cG o'
 have gf:∀b,qR (M.write id o' C' H') b→qR M b:=by
  rintro b ⟨n,q,D,h1,h2,h3,h4⟩
  by_cases e:n=id
  ·subst e
   simp only[zB.write,yH,κset_same,Option.some.injEq] at h1 h3
   subst h3
   exact⟨n,o,C,aa,aD,hC,kI b h4⟩
  ·simp only[zB.write] at h1 h3
   rw[yJ _ _ e] at h1;rw[κset_ne _ _ e] at h3
   exact⟨n,q,D,h1,h2,h3,h4⟩
 refine⟨ok.build x (· =id) (fun n hn=>yJ _ _ hn) (fun n hn=>κset_ne _ _ hn) ?_ ?_ (by simp only[zB.write];omega) ?_ ?_ ?_ ok.GF ?_,x,by simp only[zB.write];omega,?_,?_,?_,?_⟩
 ·intro n q D hn h1 h2 h3 b hb
  exact hH b fun hc=>ok.disj n id q o D C b hn h1 aa h2 aD h3 hC hb hc
 ·intro n q D hn h1 h2 h3 b hb
  exact(ok.own b ⟨n,q,D,h1,h2,h3,hb⟩).1
 ·rintro n q rfl h1
  simp only[zB.write,yH,Option.some.injEq] at h1
  subst h1
  exact⟨C',κset_same _ _ _,hO⟩
 ·rintro n rfl h1
  simp only[zB.write,yH] at h1
  cases h1
 ·rintro n q D b rfl h1 h2 h3 hb
  simp only[zB.write,κset_same,Option.some.injEq] at h3
  subst h3
  have bB:=kI b hb
  have:=ok.own b ⟨n,o,C,aa,aD,hC,bB⟩
  refine⟨fun j oj Cj hj k1 k2 k3 k4=>?_,this.1,by simp only[zB.write];omega⟩
  simp only[zB.write] at k1 k3
  rw[yJ _ _ hj] at k1;rw[κset_ne _ _ hj] at k3
  exact ok.disj j n oj o Cj C b hj k1 aa k2 aD k3 hC k4 bB
 ·intro b hb
  have:=ok.Flt b hb
  simp only[zB.write];omega
 ·intro b hb hn
  exact hH b fun hc=>hn ⟨id,o,C,aa,aD,hC,hc⟩
 ·exact fun b hb _=>gf b hb
 ·exact fun b h _=>.inl h
 ·exact fun b h _=>.inl h
def zB.freeze (M:zB)(id:Nat)(o:Obj)(C:zS):zB:={M with h:=yG M.h id o,F:=fun b=>M.F b∨b∈C.fp,G:=fun b=>M.G b∨b∈C.fp}
theorem zB.freeze_ok {M:zB}(ok:Ok M){id:Nat}{o o':Obj}{C:zS}(aa:M.h id=some o)(aD:o.owned=true)(hC:M.κ id=some C)
  (gP:o'.owned=false) (hO:yR (M.freeze id o' C) o' C):Ok (M.freeze id o' C)∧yT M (M.freeze id o' C):=by
 have x:yK M (M.freeze id o' C):=⟨fun _ C h=>⟨C,h,C.le_refl⟩,fun _ h=>.inl h,fun _ h=>.inl h,fun _ _=>rfl,fun _ _=>rfl,fun _ _=>rfl⟩
 have mM:∀b∈C.fp,qR M b:=fun b hb=>⟨id,o,C,aa,aD,hC,hb⟩
 have gf:∀b,qR (M.freeze id o' C) b→qR M b:=by
  rintro b ⟨n,q,D,h1,h2,h3,h4⟩
  by_cases e:n=id
  ·subst e
   simp only[zB.freeze,yH,Option.some.injEq] at h1
   subst h1
   rw[gP] at h2
   cases h2
  ·simp only[zB.freeze] at h1
   rw[yJ _ _ e] at h1
   exact⟨n,q,D,h1,h2,h3,h4⟩
 refine⟨ok.build x (· =id) (fun n hn=>yJ _ _ hn) (fun n _=>rfl) (fun _ _ _ _ _ _ _ _ _=>rfl) ?_ (Nat.le_refl _) ?_ ?_ ?_ ?_ ?_,x,Nat.le_refl _,fun _ _ _=>rfl,fun b hb _=>gf b hb,?_,?_⟩
 ·rintro n q D hn h1 h2 h3 b hb (hF|hF)
  ·exact(ok.own b ⟨n,q,D,h1,h2,h3,hb⟩).1 hF
  ·exact ok.disj n id q o D C b hn h1 aa h2 aD h3 hC hb hF
 ·rintro n q rfl h1
  simp only[zB.freeze,yH,Option.some.injEq] at h1
  subst h1
  exact⟨C,hC,hO⟩
 ·rintro n rfl h1
  simp only[zB.freeze,yH] at h1
  cases h1
 ·rintro n q D b rfl h1 h2 h3 hb
  simp only[zB.freeze,yH,Option.some.injEq] at h1
  subst h1
  rw[gP] at h2
  cases h2
 ·rintro b (h|h)
  ·exact .inl (ok.GF b h)
  ·exact .inr h
 ·rintro b (h|h)
  ·exact ok.Flt b h
  ·exact(ok.own b (mM b h)).2
 ·rintro b (h|h) _
  ·exact .inl h
  ·exact .inr (mM b h)
 ·rintro b (h|h) _
  ·exact .inl h
  ·exact .inr (mM b h)
end Go.Ab
set_option linter.unusedSimpArgs false
namespace Go.Ab
def GM:List (Bool×zD×zZ)→zD→zZ→Prop
 |[],_,_=>False
 |(c,a,b)::l,v,u=>(c=true∧v=a∧u=b)∨(c=false∧GM l v u)
def yI (s:yE)(v:zD)(u:zZ):Prop:=match s with
 |.alts l=>GM l v u
 |.call _ x f=>∃r,x=some r∧v=(f r).1∧u=(f r).2
 |.call2 _ _ x f g=>(∃r,x=some (.inl r)∧v=(f r).1∧u=(f r).2)∨(∃r,x=some (.inr r)∧v=(g r).1∧u=(g r).2)
theorem Wy {R:Type}{K:zD→zZ→Option R}{out:R}:∀{l:List (Bool×zD×zZ)},Mm K l=some out→∃v u,GM l v u∧K v u=some out
 |[],h=>by cases h
 |(c,a,b)::l,h=>by
  cases c with
  |true=>exact⟨a,b,.inl ⟨rfl,rfl,rfl⟩,h⟩
  |false=>
   obtain⟨v,u,h1,h2⟩:=Wy (l:=l) h
   exact⟨v,u,.inr ⟨rfl,h1⟩,h2⟩
theorem yE.elim_some {R:Type}{s:yE}{K:zD→zZ→Option R}{out:R}(h:s.elim K=some out):∃v u,yI s v u∧K v u=some out:=by
 cases s with
 |alts l=>exact Wy h
 |call X x f=>
  simp only[yE.elim,Option.bind_eq_some_iff] at h
  obtain⟨r,h1,h2⟩:=h
  exact⟨_,_,⟨r,h1,rfl,rfl⟩,h2⟩
 |call2 X Y x f g=>
  simp only[yE.elim,Option.bind_eq_some_iff] at h
  obtain⟨r,h1,h2⟩:=h
  cases r with
  |inl r=>exact⟨_,_,.inl ⟨r,h1,rfl,rfl⟩,h2⟩
  |inr r=>exact⟨_,_,.inr ⟨r,h1,rfl,rfl⟩,h2⟩
theorem vP {v a:zD}{u:zZ}(h:yI (.one a) v u):v=a∧u=[]:=by
 rcases h with⟨_,h1,h2⟩|⟨h,_⟩
 ·exact⟨h1,h2⟩
 ·cases h
theorem lz {c:Bool}{v a:zD}{u:zZ}(h:yI (.when c a) v u):c=true∧v=a∧u=[]:=by
 rcases h with h|⟨_,h⟩
 ·exact h
 ·exact h.elim
theorem fc {c:Bool}{v a:zD}{u b:zZ}(h:yI (.alts [(c,a,b)]) v u):c=true∧v=a∧u=b:=by
 rcases h with h|⟨_,h⟩
 ·exact h
 ·exact h.elim
theorem MU {x:Option zD}{v:zD}{u:zZ}(h:yI (.ofO x) v u):x=some v∧u=[]:=by
 cases x with
 |none=>exact h.elim
 |some a=>
  obtain⟨rfl,rfl⟩:=vP h
  exact⟨rfl,rfl⟩
section
variable {P:Program} (w:World)
theorem Wz {t:TypeId}{d:TypeDesc}(h:P.underlying t=some d):∃i,P.info? t=some i:=by
 unfold Program.underlying at h
 cases hi:P.info? t with
 |none=>rw[hi] at h;cases h
 |some i=>exact⟨i,rfl⟩
theorem MV {t:TypeId}{i:TypeInfo}(h:P.info? t=some i):P.cellsOf t=i.size:=by simp[Program.cellsOf,h]
theorem yWj {t:TypeId}{i:TypeInfo}(h:P.info? t=some i):P.bytesOf t=i.bytes:=by simp[Program.bytesOf,h]
theorem mN {t:TypeId}(h:0<P.cellsOf t):∃i,P.info? t=some i:=by
 cases hi:P.info? t with
 |none=>simp[Program.cellsOf,hi] at h
 |some i=>exact⟨i,rfl⟩
theorem MW {t:TypeId}{i:TypeInfo}(h:P.info? t=some i):(typeInfo t).run P w=.ok i w:=by simp[typeInfo,h]
theorem gQ {t:TypeId}{i:TypeInfo}(h:P.info? t=some i):(sizeOf t).run P w=.ok (P.cellsOf t) w:=by
 rw[MV h];simp[sizeOf,typeInfo,h]
theorem xO {t:TypeId}{b:Bool}(h:gb P t=some b):(∃d,P.underlying t=some d)∧(isAgg t).run P w=.ok b w:=by
 unfold gb at h
 cases hd:P.underlying t with
 |none=>rw[hd] at h;cases h
 |some d=>
  rw[hd] at h
  refine⟨⟨d,rfl⟩,?_⟩
  cases d<;>simp at h<;>subst h<;>simp[isAgg,run_underlying hd]
theorem WA {t:TypeId}{cs:List zG}(h:zeroCells P t=some cs):∃i v,P.info? t=some i∧i.zero=some v∧v.cells.size=i.size∧v.cells.toList.all uc=true∧cs=v.cells.toList.map ub:=by
 unfold zeroCells at h
 split at h
 ·rename_i i hi
  split at h
  ·rename_i v hv
   cases hb:(Nat.beq v.cells.size i.size&&v.cells.toList.all uc) with
   |false=>rw[hb] at h;cases h
   |true=>
    rw[hb] at h
    simp only[cond_true,Option.some.injEq] at h
    simp only[Bool.and_eq_true] at hb
    exact⟨i,v,hi,hv,Nat.eq_of_beq_eq_true hb.1,hb.2,h.symm⟩
  ·cases h
 ·cases h
end
theorem vKv {v:Value}(h:uc v=true):v.one1=true:=by cases v<;>first|rfl|cases h
theorem um {v:Value}(h:v.one1=true):v.oneCell'=true:=by cases v<;>first|rfl|cases h
theorem WB (M:zB){v:Value}(h:v.one1=true):zW M (ub v) v:=by
 unfold ub
 split<;>first|rfl|exact h
theorem GN (M:zB):∀{l:List Value},l.all uc=true→zP (zW M) (l.map ub) l
 |[],_=>trivial
 |v::l,h=>by
  simp only[List.all_cons,Bool.and_eq_true] at h
  exact⟨WB M (vKv h.1),GN M h.2⟩
theorem vL0 (M:zB)(v:Value):zU M (Mn v) v:=by
 unfold Mn
 split
 ·rename_i cs
  cases hb:cs.toList.all uc with
  |false=>trivial
  |true=>exact⟨cs,rfl,GN M hb⟩
 ·trivial
 ·rename_i h1 h2
  exact WB M (by cases v<;>first|rfl|exact absurd rfl (h1 _)|exact absurd rfl (h2 _))
def qL (P:Program)(s:Sem Value)(M:zB)(w:World)(v:zD)(u:zZ):Prop:=
 ∃rv w' M',s.run P w=.ok rv w'∧w'.os=w.os∧w'.tape=w.tape∧w'.output=w.output∧M'.H=w'.heap∧M'.h=qJ M.h u∧Ok M'∧yT M M'∧zU M' v rv
theorem qL.pure {P:Program}{s:Sem Value}{M:zB}{w:World}{v:zD}{rv:Value}(ok:Ok M)(hM:M.H=w.heap)(h:s.run P w=.ok rv w)(hv:zU M v rv):qL P s M w v []:=
 ⟨rv,w,M,h,rfl,rfl,rfl,hM,rfl,ok,yT.refl M,hv⟩
theorem xP (sh:Bool):∀(t:Ty) (x:t.den),(cellsOf sh t x).length=t.size
 |.int _,_|.bool,_|.sl _,_=>rfl
 |.pair a b,p=>by simp only[cellsOf,List.length_append,xP sh a,xP sh b,Ty.size]
theorem GO (M:zB)(sh:Bool):∀(t:Ty) (x:t.den) (rd:Nat→Option Value),zY M.H (bif sh then M.G else M.F) t x rd→
  ∀j (h:j<(cellsOf sh t x).length),∃v,rd j=some v∧zW M (cellsOf sh t x)[j] v
 |.int k,n,rd,h,j,hj=>by
  simp only[cellsOf,List.length_singleton] at hj
  obtain rfl:j=0:=by omega
  exact⟨_,h,rfl⟩
 |.bool,n,rd,h,j,hj=>by
  simp only[cellsOf,List.length_singleton] at hj
  obtain rfl:j=0:=by omega
  exact⟨_,h,rfl⟩
 |.sl t,xs,rd,h,j,hj=>by
  simp only[cellsOf,List.length_singleton] at hj
  obtain rfl:j=0:=by omega
  simp only[zY] at h
  obtain⟨A,n,c,h1,h2⟩:=h
  refine⟨_,h1,?_⟩
  show zY _ _ _ _ _
  simp only[zY]
  exact⟨A,n,c,rfl,h2⟩
 |.pair a b,p,rd,h,j,hj=>by
  simp only[zY] at h
  simp only[cellsOf,List.length_append,xP] at hj
  by_cases aV:j<(cellsOf sh a p.1).length
  ·obtain⟨v,h1,h2⟩:=GO M sh a p.1 rd h.1 j aV
   refine⟨v,h1,?_⟩
   simp only[cellsOf,List.getElem_append_left aV]
   exact h2
  ·have eG:=aV
   rw[xP] at eG
   obtain⟨v,h1,h2⟩:=GO M sh b p.2 _ h.2 (j-a.size) (by rw[xP];omega)
   refine⟨v,by rw[show j=j-a.size+a.size by omega];exact h1,?_⟩
   have iY:(cellsOf sh a p.1).length≤j:=by omega
   simp only[cellsOf,List.getElem_append_right iY]
   simp only[xP]
   exact h2
theorem CQ {cells vs:List zG}{off n:Nat}(h:kD cells off n=some vs):off+n≤cells.length∧vs=(cells.drop off).take n∧vs.length=n:=by
 unfold kD at h
 cases hb:Nat.ble (off+n) cells.length with
 |false=>rw[hb] at h;cases h
 |true=>
  rw[hb] at h
  simp only[cond_true,Option.some.injEq] at h
  have:=Nat.le_of_ble_eq_true hb
  exact⟨this,h.symm,by rw[←h,List.length_take,List.length_drop];omega⟩
theorem MX {agg:Option Bool}{vs:List zG}{v:zD}(h:oe agg vs=some v):(agg=some true∧v=.agg vs)∨(agg=some false∧∃c,vs=[c]∧v=.c c):=by
 unfold oe at h
 split at h
 ·exact .inl ⟨rfl,(Option.some.inj h).symm⟩
 ·split at h
  ·exact .inr ⟨rfl,_,rfl,(Option.some.inj h).symm⟩
  ·cases h
 ·cases h
theorem WC {P:Program}{M:zB}{w:World}(ok:Ok M)(hM:M.H=w.heap){t:TypeId}{B o:Nat}{cells vs:List zG}{off:Nat}{v:zD}
  (ee:∀j (h:j<cells.length),∃u,yC M.H B (o+j)=some u∧zW M cells[j] u)
  (ew:kD cells off (P.cellsOf t)=some vs) (hp:oe (gb P t) vs=some v):
  ∃rv,(loadVar t ⟨B,o+off,none⟩).run P w=.ok rv w∧zU M v rv:=by
 obtain⟨h1,h2,h3⟩:=CQ ew
 have dg:∀j,j<vs.length→∃u,w.cell? ⟨B,o+off+j,none⟩=some u∧∃c,vs[j]? =some c∧zW M c u:=by
  intro j hj
  obtain⟨u,k1,k2⟩:=ee (off+j) (by omega)
  refine⟨u,by rw[pF,←hM,Nat.add_assoc];exact k1,cells[off+j],?_,k2⟩
  subst h2
  rw[List.getElem?_take,if_pos (by omega),List.getElem?_drop,List.getElem?_eq_getElem]
 rcases MX hp with⟨dO,rfl⟩|⟨dO,c,rfl,rfl⟩
 ·obtain⟨⟨d,hd⟩,hr⟩:=xO (P:=P) w dO
  obtain⟨i,hi⟩:=Wz hd
  have hf:∃us:List Value,us.length=vs.length∧∀j (h:j<vs.length),∃u c,us[j]? =some u∧w.cell? ⟨B,o+off+j,none⟩=some u∧vs[j]? =some c∧zW M c u:=by
   refine⟨(List.range vs.length).map fun j=>(w.cell? ⟨B,o+off+j,none⟩).getD undef,by simp,fun j h=>?_⟩
   obtain⟨u,k1,c,k2,k3⟩:=dg j h
   exact⟨u,c,by simp[h,k1],k1,k2,k3⟩
  obtain⟨us,hl,lA⟩:=hf
  have kJ := run_loadCells_list (P := P) w ⟨B, o + off, none⟩ us (fun j u hu=>by
   have hj:j<us.length:=by
    rcases Nat.lt_or_ge j us.length with h|h
    ·exact h
    ·rw[List.getElem?_eq_none h] at hu;cases hu
   obtain⟨u',c,k1,k2,_⟩:=lA j (by omega)
   rw[hu] at k1;cases k1
   rw[Addr.add_lit];exact k2)
  refine⟨.agg us.toArray,?_,?_⟩
  ·rw[hl,h3] at kJ
   simp[loadVar,hr,gQ w hi,kJ]
  ·refine⟨us.toArray,rfl,zP.of_get (by simpa using hl.symm) fun j k1 k2=>?_⟩
   obtain⟨u,c,q1,_,q2,q3⟩:=lA j k1
   have e1:vs[j]=c:=by rw[List.getElem?_eq_getElem k1] at q2;exact Option.some.inj q2
   have e2:us[j]'(by simpa using k2)=u:=by rw[List.getElem?_eq_getElem (by simpa using k2)] at q1;exact Option.some.inj q1
   simp only[e1]
   show zW M c (us[j]'(by simpa using k2))
   rw[e2];exact q3
 ·obtain⟨⟨d,hd⟩,hr⟩:=xO (P:=P) w dO
  obtain⟨u,k1,c',k2,k3⟩:=dg 0 (by simp)
  simp at k2
  subst k2
  refine⟨u,?_,k3⟩
  simp at k1
  simp[loadVar,hr,k1]
theorem GP {P:Program}{M:zB}{w:World}(ok:Ok M)(hM:M.H=w.heap){t:TypeId}{B o:Nat}{cells vs:List zG}{off:Nat}{v:zD}
  (ee:∀j (h:j<cells.length),∃u,yC M.H B (o+j)=some u∧zW M cells[j] u)
  (ew:kD cells off (P.cellsOf t)=some vs) (hp:oe (gb P t) vs=some v):
  qL P (loadVar t ⟨B,o+off,none⟩) M w v []:=by
 obtain⟨rv,h1,h2⟩:=WC (w:=w) ok hM ee ew hp
 exact .pure ok hM h1 h2
theorem il (P:Program)(w:World)(a:Addr):(Instr.sureAddr (.pointer (some a))).run P w=.ok a w:=rfl
theorem WD {M:zB}{own:Bool}{cells:List zG}{C:zS}(h:yR M (.box own cells) C):∃B,C.blk=some B∧∀j (h:j<cells.length),∃u,yC M.H B (0+j)=some u∧zW M cells[j] u:=by
 obtain⟨B,vals,e,h1,h2,h3,h4,h5⟩:=h
 refine⟨B,h1,fun j hj=>?_⟩
 have hl:=h4.length
 have fe:j<vals.size:=by simpa[hl] using hj
 refine⟨vals[j],?_,?_⟩
 ·simp[yC,h3,fe]
 ·have:=h4.get j hj (by simpa using fe)
  simpa using this
theorem vMu {M:zB}{cells:List zG}{C:zS}(h:yR M (.robox cells) C):∃B,C.blk=some B∧∀j (h:j<cells.length),∃u,yC M.H B (0+j)=some u∧zW M cells[j] u:=by
 obtain⟨B,vals,e,h1,h2,h3,h4,h5⟩:=h
 refine⟨B,h1,fun j hj=>?_⟩
 have hl:=h4.length
 have fe:j<vals.size:=by simpa[hl] using hj
 refine⟨vals[j],?_,?_⟩
 ·simp[yC,h3,fe]
 ·have:=h4.get j hj (by simpa using fe)
  simpa using this
theorem vIj {M:zB}{own:Bool}{t:Ty}{xs:List t.den}{C:zS}(h:yR M (.arr own t xs) C){i:Nat}(hi:i<xs.length):∃B,C.blk=some B∧
  ∀j (h:j<(cellsOf true t (xs.getD i t.dflt)).length),∃u,yC M.H B (i*C.sz+j)=some u∧zW M (cellsOf true t (xs.getD i t.dflt))[j] u:=by
 obtain⟨h1,h2,h3,h4⟩:=h
 cases hB:C.blk with
 |none=>rw[hB] at h4;subst h4;simp at hi
 |some B=>
  rw[hB] at h4
  obtain⟨vals,e,h5,h6,h7,h8⟩:=h4
  refine⟨B,rfl,fun j hj=>?_⟩
  have e1:xs.getD i t.dflt=xs[i]:=by simp[List.getD,hi]
  have:=GO M true t xs[i] _ (h8 i hi) j (by rw[←e1];exact hj)
  obtain⟨v,k1,k2⟩:=this
  refine⟨v,?_,?_⟩
  ·rw[h2];simp only[yC,h5];exact k1
  ·simp only[e1];exact k2
theorem GQ {P:Program}{t:TypeId}{cells:List zG}{off:Nat}{v:zD}{u:zZ}(h:yI (CH P t cells off) v u):
  ∃vs,kD cells off (P.cellsOf t)=some vs∧oe (gb P t) vs=some v∧u=[]:=by
 obtain⟨h',rfl⟩:=MU h
 rw[Option.bind_eq_some_iff] at h'
 obtain⟨vs,h1,h2⟩:=h'
 exact⟨vs,h1,h2,rfl⟩
theorem kG.one {H:Array Go.Obj}{rb:Option Nat}{n:Nat}{v:Value}(h:kG H rb n v):v.one1=true:=by
 cases rb with
 |none=>obtain⟨rfl,_⟩:=h;rfl
 |some R=>obtain⟨a,c,rfl,_⟩:=h;rfl
theorem xQ {M:zB}{ver:Nat}{xs:List (List Int)}{C:zS}(h:yR M (.mat ver xs) C){i:Nat}(hi:i<xs.length):∃B rb v,C.blk=some B∧C.ver=ver∧
  C.rows[i]? =some (rb,xs[i].length)∧yC M.H B i=some v∧kG M.H rb xs[i].length v∧(∀R,rb=some R→∀j (h':j<xs[i].length),yC M.H R j=some (.int .i64 xs[i][j])):=by
 obtain⟨q1,q2,q3,q4,q5,q6⟩:=h
 cases hB:C.blk with
 |none=>rw[hB] at q6;subst q6;simp at hi
 |some B=>
  rw[hB] at q6
  obtain⟨vals,e,q7,q8,q9⟩:=q6
  obtain⟨rb,v,k1,k2,k3,k4⟩:=q9 i hi
  refine⟨B,rb,v,rfl,q1,k1,by simp only[yC,q7];exact k2,k3,fun R hR j hj=>?_⟩
  obtain⟨rv,er,k5,k6⟩:=k4 R hR
  simp only[yC,k5];exact k6 j hj
theorem vB9 {P:Program}{M:zB}{w:World}(ok:Ok M)(hM:M.H=w.heap){t:TypeId}{a v:zD}{u:zZ}{ra:Value}(ha:zU M a ra)
  (h:yI (xw P M.h t a) v u):qL P (Instr.loadAt t ra) M w v u:=by
 unfold xw at h
 split at h
 ·rename_i id off
  split at h
  ·rename_i own cells aa
   obtain⟨vs,h1,h2,rfl⟩:=GQ h
   obtain⟨C,B,hC,hB,rfl⟩:=ha
   obtain⟨C',ax,hO⟩:=ok.obj _ _ aa
   rw[hC] at ax;cases ax
   obtain⟨B',im,aA⟩:=WD hO
   rw[hB] at im;cases im
   have:=GP (P:=P) ok hM (t:=t) (o:=0) aA h1 h2
   simpa[Instr.loadAt,qL,il] using this
  ·rename_i cells aa
   obtain⟨vs,h1,h2,rfl⟩:=GQ h
   obtain⟨C,B,hC,hB,rfl⟩:=ha
   obtain⟨C',ax,hO⟩:=ok.obj _ _ aa
   rw[hC] at ax;cases ax
   obtain⟨B',im,aA⟩:=vMu hO
   rw[hB] at im;cases im
   have:=GP (P:=P) ok hM (t:=t) (o:=0) aA h1 h2
   simpa[Instr.loadAt,qL,il] using this
  ·exact h.elim
 ·rename_i sh ty x off
  obtain⟨vs,h1,h2,rfl⟩:=GQ h
  obtain⟨B,o,rfl,hB,hE⟩:=ha
  have:=GP (P:=P) ok hM (t:=t) (B:=B) (o:=o) (fun j hj=>GO M sh ty x _ hE j hj) h1 h2
  simpa[Instr.loadAt,qL,il] using this
 ·rename_i id i off
  split at h
  ·rename_i own ty xs aa
   obtain⟨vs,h1,h2,rfl⟩:=GQ h
   obtain⟨C,B,hC,hB,hi,rfl⟩:=ha
   obtain⟨C',ax,hO⟩:=ok.obj _ _ aa
   rw[hC] at ax;cases ax
   obtain⟨B',im,aA⟩:=vIj hO (i:=i) (by rw[←hO.1];exact hi)
   rw[hB] at im;cases im
   have:=GP (P:=P) ok hM (t:=t) aA h1 h2
   simpa[Instr.loadAt,qL,il] using this
  ·exact h.elim
 ·rename_i id i
  split at h
  ·rename_i ver xs aa
   split at h
   ·rename_i dO
    obtain⟨rfl,rfl⟩:=vP h
    obtain⟨C,B,hC,hB,hi,rfl⟩:=ha
    obtain⟨C',ax,hO⟩:=ok.obj _ _ aa
    rw[hC] at ax;cases ax
    obtain⟨B',rb,x,k0,kv,k1,k2,k3,k4⟩:=xQ hO (i:=i) (by rw[←hO.2.1];exact hi)
    rw[hB] at k0;cases k0
    obtain⟨_,hr⟩:=xO (P:=P) w dO
    have yC:w.cell? ⟨B,i,none⟩=some x:=by rw[pF,←hM];exact k2
    exact qL.pure ok hM (rv:=x) (by simp[Instr.loadAt,il,loadVar,hr,yC]) ⟨C,hC,k3.one,by omega,fun _=>⟨rb,_,k1,k3⟩⟩
   ·exact h.elim
  ·exact h.elim
 ·rename_i id i j ver
  split at h
  ·rename_i v' xs aa
   cases hv:Nat.beq v' ver with
   |false=>rw[hv] at h;exact h.elim
   |true=>
    rw[hv] at h
    simp only[cond_true] at h
    have hv:=Nat.eq_of_beq_eq_true hv
    subst hv
    split at h
    ·rename_i dO
     obtain⟨rfl,rfl⟩:=vP h
     obtain⟨C,hC,h1,hle,hm⟩:=ha
     obtain⟨C',ax,hO⟩:=ok.obj _ _ aa
     rw[hC] at ax;cases ax
     obtain⟨R,rl,k1,k2,rfl⟩:=hm hO.1
     have hi:i<xs.length:=by
      rw[←hO.2.2.2.1]
      rcases Nat.lt_or_ge i C.rows.length with h|h
      ·exact h
      ·rw[List.getElem?_eq_none h] at k1;cases k1
     obtain⟨B',rb,x,q0,qv,q1,q2,q3,q4⟩:=xQ hO hi
     rw[k1] at q1
     cases q1
     obtain⟨_,hr⟩:=xO (P:=P) w dO
     have yC:w.cell? ⟨R,j,none⟩=some (.int .i64 xs[i][j]):=by rw[pF,←hM];exact q4 R rfl j k2
     refine qL.pure ok hM (rv:=.int .i64 xs[i][j]) (by simp[Instr.loadAt,il,loadVar,hr,yC]) ?_
     show _=_
     simp[List.getD,hi,k2]
    ·exact h.elim
  ·exact h.elim
 ·exact h.elim
theorem iZ (h:Hp):∀(u v:zZ),qJ h (u++v)=qJ (qJ h u) v
 |[],_=>rfl
 |(id,o)::u,v=>iZ (yG h id o) u v
theorem MY (h:Hp)(id:Nat)(o:Obj):qJ h [(id,o)]=yG h id o:=rfl
theorem xR {h:Hp}{id:Nat}{o:Obj}(e:h id=some o):yG h id o=h:=by
 funext n
 by_cases hn:n=id
 ·subst hn;rw[yH];exact e.symm
 ·rw[yJ _ _ hn]
theorem MZ:∀(vs:List zG) (cells:List zG) (off:Nat) (out:List zG),ud cells off vs=some out→
  (vs=[]∨off+vs.length≤cells.length)∧out=cells.take off++vs++cells.drop (off+vs.length)
 |[],cells,off,out,h=>by
  simp only[ud,Option.some.injEq] at h
  subst h
  exact⟨.inl rfl,by simp⟩
 |v::vs,cells,off,out,h=>by
  unfold ud at h
  cases hb:Nat.blt off cells.length with
  |false=>rw[hb] at h;cases h
  |true=>
   rw[hb] at h
   simp only[cond_true] at h
   have aV:off<cells.length:=Nat.le_of_ble_eq_true hb
   obtain⟨h1,h2⟩:=MZ vs (cells.set off v) (off+1) out h
   rw[List.length_set] at h1
   refine⟨.inr (by rcases h1 with rfl|h1<;>simp only[List.length_cons,List.length_nil]<;>omega),?_⟩
   rw[h2]
   have e1:(cells.set off v).take (off+1)=cells.take off++[v]:=by
    rw[List.take_succ_eq_append_getElem (by simpa using aV),List.take_set_of_le (Nat.le_refl _)]
    simp
   have e2:(cells.set off v).drop (off+1+vs.length)=cells.drop (off+(v::vs).length):=by
    rw[List.drop_set_of_lt (by omega)]
    simp only[List.length_cons]
    congr 1;omega
   rw[e1,e2]
   simp
theorem GR {M:zB}{v:zD}{rv:Value}{vs:List zG}(h:l9 v=some vs)(hv:zU M v rv):zP (zW M) vs rv.cells.toList:=by
 unfold l9 at h
 split at h
 ·rename_i c
  cases h
  have h1:=zW.one hv
  have:rv.cells=#[rv]:=by cases rv<;>first|rfl|cases h1
  rw[this]
  exact⟨hv,trivial⟩
 ·cases h
  obtain⟨us,rfl,h⟩:=hv
  exact h
 ·cases h
theorem M3 {M:zB}:∀{vs:List zG} {us:List Value},zP (zW M) vs us→∀u∈us,u.one1=true
 |[],[],_,_,h=>by cases h
 |_::_,u::us,hh,x,h=>by
  cases h with
  |head=>exact hh.1.one
  |tail _ h=>exact M3 hh.2 x h
 |[],_::_,hh,_,_=>hh.elim
 |_::_,[],hh,_,_=>hh.elim
def kK (P:Program)(s:Sem Unit)(M:zB)(w:World)(u:zZ):Prop:=
 ∃w' M',s.run P w=.ok () w'∧w'.os=w.os∧w'.tape=w.tape∧w'.output=w.output∧M'.H=w'.heap∧M'.h=qJ M.h u∧Ok M'∧yT M M'
def yO (vals:Array Value)(off:Nat)(us:List Value):Array Value:=(vals.toList.take off++us++vals.toList.drop (off+us.length)).toArray
theorem fg {vals:Array Value}{off:Nat}{us:List Value}(h:off+us.length≤vals.size):(yO vals off us).size=vals.size:=by
 simp only[yO,List.size_toArray,List.length_append,List.length_take,List.length_drop,Array.length_toList];omega
theorem wW {vals:Array Value}{off:Nat}{us:List Value}(h:off+us.length≤vals.size)(j:Nat):
  (yO vals off us)[j]? =if j<off then vals[j]? else if j<off+us.length then us[j-off]? else vals[j]? :=by
 simp only[yO,List.getElem?_toArray,List.append_assoc]
 by_cases h1:j<off
 ·rw[if_pos h1,List.getElem?_append_left (by simp;omega),List.getElem?_take,if_pos h1];simp
 ·rw[if_neg h1]
  have hl:(vals.toList.take off).length=off:=by simp;omega
  rw[List.getElem?_append_right (by omega),hl]
  by_cases h2:j<off+us.length
  ·rw[if_pos h2,List.getElem?_append_left (by omega)]
  ·rw[if_neg h2,List.getElem?_append_right (by omega),List.getElem?_drop]
   simp only[Array.getElem?_toList]
   congr 1;omega
theorem me {w:World}{B:Nat}{vals new:Array Value}{e:TypeId}(h:w.heap[B]? =some (.cells vals e (0,0)))(hs:new.size=vals.size):
  (w.setRow B new).heap.size=w.heap.size∧(w.setRow B new).heap[B]? =some (.cells new e (0,0))∧(∀b,b≠B→(w.setRow B new).heap[b]? =w.heap[b]?)∧
  (∀b,qX (w.setRow B new).heap b=qX w.heap b):=by
 have h1:=setRow_heap w B vals new e (0,0) h
 have h2:∀b,b≠B→(w.setRow B new).heap[b]? =w.heap[b]? :=fun b hb=>setRow_other w B b new hb
 refine⟨by simp[World.setRow],h1,h2,fun b=>?_⟩
 by_cases hb:b=B
 ·subst hb;simp only[qX,h1,h];exact hs
 ·exact xN (h2 b hb)
theorem M4 {P:Program}{w:World}{t:TypeId}{B off:Nat}{vals:Array Value}{e:TypeId}{rv:Value}(h:w.heap[B]? =some (.cells vals e (0,0)))
  (hn:rv.cells.size=P.cellsOf t) (h0:0<P.cellsOf t) (aB:off+rv.cells.size≤vals.size) (h1:∀u∈rv.cells.toList,u.one1=true):
  (storeVar t ⟨B,off,none⟩ rv).run P w=.ok () (w.setRow B (yO vals off rv.cells.toList)):=by
 obtain⟨i,hi⟩:=mN h0
 have eA:=run_storeCells_at (P:=P) B off e rv.cells.toList 0 vals w h (by simpa using aB) (fun v hv=>um (h1 v hv))
 simp only[Nat.add_zero] at eA
 have:¬rv.cells.size≠P.cellsOf t:=by omega
 simp only[storeVar,Sem.run_bind,gQ w hi,Result.andThen_ok,this,if_false]
 exact eA
theorem M5 {M M':zB}(x:yK M M'){cells vs:List zG}{vals:Array Value}{us:List Value}{off:Nat}(h:zP (zW M) cells vals.toList)(hv:zP (zW M) vs us)
  (aB:off+us.length≤vals.size):zP (zW M') (cells.take off++vs++cells.drop (off+vs.length)) (yO vals off us).toList:=by
 have hl:=hv.length
 simp only[yO]
 rw[hl]
 exact((h.take off).append hv|>.append (h.drop _)).mono fun _ _ hc=>hc.ext x
def wN (h0 h:Hp):Prop:=∀id,h id=h0 id∨(∃own t xs,h0 id=some (.arr own t xs)∧h id=some (.arr false t xs))∨
 (∃ver xs,h0 id=some (.mat ver xs)∧h id=some (.arr false (.sl (.int .i64)) xs))
theorem wN.refl (h:Hp):wN h h:=fun _=>.inl rfl
theorem xS {α:Type}{xs:List α}{lo n:Nat}(h:lo+n≤xs.length):(yB xs lo n).length=n:=by
 simp only[yB,List.length_take,List.length_drop];omega
theorem GS {α:Type}{xs:List α}{lo n i:Nat}(h:i<(yB xs lo n).length):∃h':lo+i<xs.length,(yB xs lo n)[i]=xs[lo+i]:=by
 have:lo+i<xs.length:=by simp only[yB,List.length_take,List.length_drop] at h;omega
 exact⟨this,by simp[yB]⟩
theorem WE {H:Array Go.Obj}{G:Nat→Prop}{C:zS}{t:Ty}{xs:List t.den}{lo n:Nat}{v:Value}(dM:C.sz=t.size)(hn:lo+n≤xs.length)(h:wH H C lo n v)
  (hx:match C.blk with
   |none=>xs=[]
   |some B=>G B∧∃vals e,H[B]? =some (.cells vals e (0,0))∧∀i (h:i<xs.length),zY H G t xs[i] (fun j=>vals[i*t.size+j]?)):
  zY H G (.sl t) (yB xs lo n) (fun _=>some v):=by
 simp only[zY]
 obtain⟨A,c,rfl,h⟩:=h
 cases hB:C.blk with
 |none=>
  rw[hB] at h hx
  obtain⟨rfl,rfl,rfl⟩:=h
  subst hx
  exact⟨none,0,0,rfl,by simp[yB],Nat.le_refl _,.inl ⟨by simp[yB],fun _=>rfl⟩⟩
 |some B=>
  rw[hB] at h hx
  obtain⟨hc,a,rfl,ha,aB⟩:=h
  obtain⟨hG,vals,e,hv,hE⟩:=hx
  have hl:=xS hn
  refine⟨_,n,c,rfl,hl.symm,hc,?_⟩
  by_cases h0:n=0
  ·exact .inl ⟨List.eq_nil_of_length_eq_zero (by omega),fun h=>by cases h⟩
  ·refine .inr ⟨B,a,rfl,hG,fun i hi=>?_⟩
   obtain⟨bS,e1⟩:=GS hi
   rw[e1]
   have kL:a=lo*C.sz:=by rcases ha with ha|ha<;>omega
   have:=hE (lo+i) bS
   have e2:(fun j=>yC H B (a+i*t.size+j))=fun j=>vals[(lo+i)*t.size+j]? :=by
    funext j
    rw[kL,dM,←Nat.add_mul]
    simp only[yC,hv]
   rw[e2]
   exact this
theorem WG {α:Type}(xs:List α):yB xs 0 xs.length=xs:=by simp[yB]
theorem uo {M:zB}{t:Ty}{xs:List t.den}{C:zS}{id:Nat}{r:Option (Nat×Nat)}{v:Value}(hC:M.κ id=some C)(hO:yR M (.arr false t xs) C)(h:zW M (.osl id r) v):
  zY M.H M.G (.sl t) (ga xs r) (fun _=>some v):=by
 obtain⟨h1,h2,h3,h4⟩:=hO
 obtain⟨C',ax,h⟩:=h
 rw[hC] at ax;cases ax
 have hx:match C.blk with
   |none=>xs=[]
   |some B=>M.G B∧∃vals e,M.H[B]? =some (.cells vals e (0,0))∧∀i (h:i<xs.length),zY M.H M.G t xs[i] (fun j=>vals[i*t.size+j]?):=by
  cases hB:C.blk with
  |none=>rw[hB] at h4;exact h4
  |some B=>
   rw[hB] at h4
   obtain⟨vals,e,h5,h6,h7,h8⟩:=h4
   exact⟨h6 rfl,vals,e,h5,h8⟩
 cases r with
 |none=>
  have:=WE (G:=M.G) h2 (lo:=0) (n:=C.len) (by omega) h hx
  rw[h1,WG] at this
  exact this
 |some p=>
  obtain⟨lo,n⟩:=p
  obtain⟨h5,h6,_⟩:=h
  exact WE (G:=M.G) h2 (by omega) h6 hx
theorem WH {M:zB}(ok:Ok M){id:Nat}{t:Ty}{xs:List t.den}(aa:M.h id=some (.arr true t xs)):
  ∃M',M'.H=M.H∧M'.h=yG M.h id (.arr false t xs)∧Ok M'∧yT M M'∧M'.κ=M.κ:=by
 obtain⟨C,hC,hO⟩:=ok.obj id _ aa
 have pH:yR (M.freeze id (.arr false t xs) C) (.arr false t xs) C:=by
  have x:yK M (M.freeze id (.arr false t xs) C):=⟨fun _ C h=>⟨C,h,C.le_refl⟩,fun _ h=>.inl h,fun _ h=>.inl h,fun _ _=>rfl,fun _ _=>rfl,fun _ _=>rfl⟩
  obtain⟨h1,h2,h3,h4⟩:=hO.ext x fun _ _ _=>rfl
  refine⟨h1,h2,fun h=>(by cases h),?_⟩
  cases hB:C.blk with
  |none=>rw[hB] at h4;exact h4
  |some B=>
   rw[hB] at h4
   obtain⟨vals,e,h5,h6,h7,h8⟩:=h4
   exact⟨vals,e,h5,fun _=>.inr (by simp[zS.fp,hB]),h7,h8⟩
 have:=zB.freeze_ok ok aa rfl hC rfl pH
 exact⟨M.freeze id _ C,rfl,rfl,this.1,this.2,rfl⟩
theorem WI {M:zB}(ok:Ok M){id:Nat}{t:Ty}{xs:List t.den}(aa:M.h id=some (.arr true t xs)):
  ∃M',M'.H=M.H∧M'.h=yG M.h id (.arr false t xs)∧Ok M'∧yT M M':=by
 obtain⟨M',h1,h2,h3,h4,_⟩:=WH ok aa
 exact⟨M',h1,h2,h3,h4⟩
theorem WJ {M:zB}(ok:Ok M){id:Nat}{ver:Nat}{xs:List (List Int)}(aa:M.h id=some (.mat ver xs)):
  ∃M',M'.H=M.H∧M'.h=yG M.h id (.arr false (.sl (.int .i64)) xs)∧Ok M'∧yT M M'∧M'.κ=M.κ:=by
 obtain⟨C,hC,hO⟩:=ok.obj id _ aa
 have pH:yR (M.freeze id (.arr false (.sl (.int .i64)) xs) C) (.arr false (.sl (.int .i64)) xs) C:=by
  obtain⟨h1,h2,h3,h4,h5,h6⟩:=hO
  refine⟨h2,h3,fun h=>(by cases h),?_⟩
  cases hB:C.blk with
  |none=>rw[hB] at h6;exact h6
  |some B=>
   rw[hB] at h6
   obtain⟨vals,e,h7,h8,h9⟩:=h6
   refine⟨vals,e,h7,fun _=>.inr (by simp[zS.fp,hB]),by simpa[Ty.size] using h8,fun i hi=>?_⟩
   obtain⟨rb,v,k1,k2,k3,k4⟩:=h9 i hi
   simp only[zY,Ty.size,Nat.mul_one,Nat.add_zero]
   cases rb with
   |none=>
    obtain⟨rfl,hl⟩:=k3
    exact⟨none,0,0,k2,hl.symm,Nat.le_refl _,.inl ⟨List.eq_nil_of_length_eq_zero hl,fun _=>rfl⟩⟩
   |some R=>
    obtain⟨a,c,rfl,hc,ha,hs⟩:=k3
    obtain⟨rv,er,k5,k6⟩:=k4 R rfl
    by_cases cd:xs[i]=[]
    ·exact⟨_,_,c,k2,rfl,hc,.inl ⟨cd,fun h=>by cases h⟩⟩
    have kM:a=0:=by
     have:0<xs[i].length:=List.length_pos_iff.2 cd
     rcases ha with ha|ha<;>omega
    subst kM
    refine⟨_,_,c,k2,rfl,hc,.inr ⟨R,0,rfl,.inr ?_,fun j hj=>?_⟩⟩
    ·have:(some R,xs[i].length)∈C.rows:=List.mem_of_getElem? k1
     simp only[zS.fp,List.mem_append,List.mem_filterMap]
     exact .inr ⟨_,this,rfl⟩
    ·have e1:(M.freeze id (Obj.arr false (.sl (.int .i64)) xs) C).H=M.H:=rfl
     simp only[e1,yC,k5,Nat.zero_add]
     exact k6 j hj
 have:=zB.freeze_ok ok aa rfl hC rfl pH
 exact⟨M.freeze id _ C,rfl,rfl,this.1,this.2,rfl⟩
theorem WK {M:zB}(ok:Ok M){id:Nat}{ver:Nat}{xs:List (List Int)}(aa:M.h id=some (.mat ver xs)):
  ∃M',M'.H=M.H∧M'.h=yG M.h id (.arr false (.sl (.int .i64)) xs)∧Ok M'∧yT M M':=by
 obtain⟨M',h1,h2,h3,h4,_⟩:=WJ ok aa
 exact⟨M',h1,h2,h3,h4⟩
theorem CR {M:zB}(ok:Ok M){h0:Hp}(hf:wN h0 M.h){c c':zG}{v:Value}{u:zZ}(hc:zW M c v)(h:ma h0 c=some (c',u)):
  ∃M',M'.H=M.H∧M'.h=qJ M.h u∧Ok M'∧yT M M'∧zW M' c' v∧wN h0 M'.h∧(∀p∈u,p.2.owned=false):=by
 have M6 : c' = c → u = [] → _ := fun e1 e2 => (⟨M,rfl,by rw[e2];rfl,ok,yT.refl M,by rw[e1];exact hc,hf,by simp[e2]⟩:
  ∃M',M'.H=M.H∧M'.h=qJ M.h u∧Ok M'∧yT M M'∧zW M' c' v∧wN h0 M'.h∧(∀p∈u,p.2.owned=false))
 cases c with
 |osl id r=>
  have key:∀(t:Ty) (xs:List t.den),(∀M',Ok M'→M'.h id=some (.arr false t xs)→zW M' (.osl id r) v→zW M' (.fsl true t (ga xs r)) v):=by
   intro t xs M' iq lB j3
   obtain⟨C,hC,hO⟩:=iq.obj id _ lB
   exact uo hC hO j3
  unfold ma at h
  simp only at h
  split at h
  ·rename_i own t xs gg
   cases h
   rcases hf id with e|⟨o2,t2,M7,e1,e2⟩|⟨ver,M7,e1,e2⟩
   ·rw[gg] at e
    cases own with
    |true=>
     obtain⟨M',h1,h2,iq,bJ⟩:=WI ok e
     refine⟨M',h1,h2,iq,bJ,key t xs M' iq (by rw[h2];exact yH _ _ _) (hc.ext bJ.ext),fun n=>?_,by simp[Obj.owned]⟩
     by_cases hn:n=id
     ·subst hn
      exact .inr (.inl ⟨true,t,xs,gg,by rw[h2];exact yH _ _ _⟩)
     ·rw[h2,yJ _ _ hn];exact hf n
    |false=>exact⟨M,rfl,(xR e).symm,ok,yT.refl M,key t xs M ok e hc,hf,by simp[Obj.owned]⟩
   ·rw[gg] at e1;cases e1
    exact⟨M,rfl,(xR e2).symm,ok,yT.refl M,key t xs M ok e2 hc,hf,by simp[Obj.owned]⟩
   ·rw[gg] at e1;cases e1
  ·rename_i ver xs gg
   split at h
   ·cases h
    rcases hf id with e|⟨o2,t2,M7,e1,e2⟩|⟨aaf,M7,e1,e2⟩
    ·rw[gg] at e
     obtain⟨M',h1,h2,iq,bJ⟩:=WK ok e
     refine⟨M',h1,h2,iq,bJ,key (.sl (.int .i64)) xs M' iq (by rw[h2];exact yH _ _ _) (hc.ext bJ.ext),fun n=>?_,by simp[Obj.owned]⟩
     by_cases hn:n=id
     ·subst hn
      exact .inr (.inr ⟨ver,xs,gg,by rw[h2];exact yH _ _ _⟩)
     ·rw[h2,yJ _ _ hn];exact hf n
    ·rw[gg] at e1;cases e1
    ·rw[gg] at e1;cases e1
     exact⟨M,rfl,(xR e2).symm,ok,yT.refl M,key (.sl (.int .i64)) xs M ok e2 hc,hf,by simp[Obj.owned]⟩
   ·cases h
  ·cases h
 |mrow _ _ _=>cases h
 |_=>cases h;exact M6 rfl rfl
theorem M8 {h0:Hp}:∀{cs aM:List zG} {vs:List Value} {u:zZ} {M:zB},Ok M→wN h0 M.h→zP (zW M) cs vs→lq h0 cs=some (aM,u)→
  ∃M',M'.H=M.H∧M'.h=qJ M.h u∧Ok M'∧yT M M'∧zP (zW M') aM vs∧wN h0 M'.h∧(∀p∈u,p.2.owned=false)
 |[],aM,[],u,M,ok,hf,_,h=>by cases h;exact⟨M,rfl,rfl,ok,yT.refl M,trivial,hf,by simp⟩
 |c::cs,aM,v::vs,u,M,ok,hf,hc,h=>by
  unfold lq at h
  split at h
  ·rename_i c1 u1 kN om e1 e2
   cases h
   obtain⟨M1,a1,a2,a3,a4,a5,a6,a7⟩:=CR ok hf hc.1 e1
   obtain⟨M2,b1,b2,b3,b4,b5,b6,b7⟩:=M8 a3 a6 (hc.2.mono fun _ _ k=>k.ext a4.ext) e2
   refine⟨M2,b1.trans a1,by rw[b2,a2,iZ],b3,a4.trans b4,⟨a5.ext b4.ext,b5⟩,b6,fun p hp=>?_⟩
   rcases List.mem_append.1 hp with hp|hp
   ·exact a7 p hp
   ·exact b7 p hp
  ·cases h
 |[],_,_::_,_,_,_,_,hh,_=>hh.elim
 |_::_,_,[],_,_,_,_,hh,_=>hh.elim
theorem ja {a b:Ty}{xs:List a.den}{ys:List b.den}(h:fD a b xs=some ys):∃e:a=b,e▸xs=ys:=by
 unfold fD at h
 split at h
 ·rename_i he
  have:=xq he
  subst this
  exact⟨rfl,Option.some.inj h⟩
 ·cases h
theorem GU {a b:Nat}(h:Nat.blt a b=true):a<b:=Nat.le_of_ble_eq_true h
theorem yTd {a b:Nat}(h:Nat.blt a b=false):¬a<b:=fun hh=>by
 have:Nat.blt a b=true:=Nat.ble_eq_true_of_le hh
 rw[this] at h;cases h
theorem WL {k:IntKind}{off:Nat}{c:zG}{n:Int}(h:Mo k off c=some n):off=0∧c=.int k n:=by
 unfold Mo at h
 split at h
 ·rename_i j m
  cases hb:jz j k with
  |false=>rw[hb] at h;cases h
  |true=>
   rw[hb] at h
   have:=rU hb
   subst this
   cases h
   exact⟨rfl,rfl⟩
 ·cases h
theorem WM {off:Nat}{c:zG}{n:Bool}(h:Mp off c=some n):off=0∧c=.bool n:=by
 unfold Mp at h
 split at h
 ·cases h;exact⟨rfl,rfl⟩
 ·cases h
theorem WN {t:Ty}{off:Nat}{c:zG}{xs:List t.den}(h:Mq t off c=some xs):off=0∧(c=.fsl true t xs∨(c=.nsl∧xs=[])):=by
 unfold Mq at h
 split at h
 ·rename_i s ys
  obtain⟨e,h⟩:=ja h
  subst e
  subst h
  exact⟨rfl,.inl rfl⟩
 ·cases h;exact⟨rfl,.inr ⟨rfl,rfl⟩⟩
 ·cases h
theorem WO {a b:Ty}{p q:(Ty.pair a b).den}{off:Nat}{c:zG}(h:py (.pair a b) p off c=some q):
  (off<a.size∧py a p.1 off c=some q.1∧q.2=p.2)∨(¬off<a.size∧py b p.2 (off-a.size) c=some q.2∧q.1=p.1):=by
 simp only[py] at h
 cases hb:Nat.blt off a.size with
 |true=>
  rw[hb] at h
  simp only[cond_true] at h
  split at h
  ·rename_i x hx
   cases h
   exact .inl ⟨GU hb,hx,rfl⟩
  ·cases h
 |false=>
  rw[hb] at h
  simp only[cond_false] at h
  split at h
  ·rename_i x hx
   cases h
   exact .inr ⟨yTd hb,hx,rfl⟩
  ·cases h
theorem WQ:∀{t:Ty} {x y:t.den} {off:Nat} {c:zG},py t x off c=some y→off<t.size
 |.int k,x,y,off,c,h=>by rw[(WL h).1];simp[Ty.size]
 |.bool,x,y,off,c,h=>by rw[(WM h).1];simp[Ty.size]
 |.sl t,x,y,off,c,h=>by rw[(WN h).1];simp[Ty.size]
 |.pair a b,x,y,off,c,h=>by
  simp only[Ty.size]
  rcases WO h with⟨h1,_⟩|⟨h1,h2,_⟩
  ·omega
  ·have:=WQ h2;omega
theorem M9 {M:zB}:∀(t:Ty) (x y:t.den) (off:Nat) (c:zG) (u:Value) (rd eW:Nat→Option Value),zY M.H M.G t x rd→py t x off c=some y→zW M c u→
  eW off=some u→(∀j,j≠off→j<t.size→eW j=rd j)→zY M.H M.G t y eW
 |.int k,x,y,off,c,u,rd,eW,hE,h,hc,hr,ee=>by
  obtain⟨rfl,rfl⟩:=WL h
  simp only[zY]
  rw[hr,show u=_ from hc]
 |.bool,x,y,off,c,u,rd,eW,hE,h,hc,hr,ee=>by
  obtain⟨rfl,rfl⟩:=WM h
  simp only[zY]
  rw[hr,show u=_ from hc]
 |.sl t,x,y,off,c,u,rd,eW,hE,h,hc,hr,ee=>by
  obtain⟨rfl,rfl|⟨rfl,rfl⟩⟩:=WN h
  ·have j3:zY M.H M.G (.sl t) y (fun _=>some u):=hc
   refine yQ (fun _ h=>h) (fun _ _=>rfl) _ _ _ _ (fun j hj=>?_) j3
   simp only[Ty.size] at hj
   obtain rfl:j=0:=by omega
   exact hr
  ·simp only[zY]
   exact⟨none,0,0,by rw[hr,show u=_ from hc],rfl,Nat.le_refl _,.inl ⟨by trivial,fun _=>rfl⟩⟩
 |.pair a b,x,y,off,c,u,rd,eW,hE,h,hc,hr,ee=>by
  simp only[zY] at hE⊢
  simp only[Ty.size] at ee
  rcases WO h with⟨h1,h2,h3⟩|⟨h1,h2,h3⟩
  ·refine⟨M9 a _ _ off c u rd eW hE.1 h2 hc hr fun j hj mf=>ee j hj (by omega),?_⟩
   rw[h3]
   exact yQ (fun _ h=>h) (fun _ _=>rfl) _ _ _ _ (fun j hj=>ee _ (by omega) (by omega)) hE.2
  ·refine⟨?_,M9 b _ _ (off-a.size) c u _ _ hE.2 h2 hc (by rw[show off-a.size+a.size=off by omega];exact hr) fun j hj mf=>ee _ (by omega) (by omega)⟩
   rw[h3]
   exact yQ (fun _ h=>h) (fun _ _=>rfl) _ _ _ _ (fun j hj=>ee _ (by omega) (by omega)) hE.1
theorem WR {t:Ty}:∀{vs:List zG} {x y:t.den} {off:Nat},pz t x off vs=some y→vs=[]∨off+vs.length≤t.size
 |[],_,_,_,_=>.inl rfl
 |v::vs,x,y,off,h=>by
  unfold pz at h
  split at h
  ·rename_i z hz
   have h1:=WQ hz
   rcases WR h with rfl|h2
   ·exact .inr (by simp only[List.length_cons,List.length_nil];omega)
   ·exact .inr (by simp only[List.length_cons];omega)
  ·cases h
theorem Na {M:zB}(t:Ty):∀(vs:List zG) (us:List Value) (x y:t.den) (off:Nat) (rd eW:Nat→Option Value),zY M.H M.G t x rd→pz t x off vs=some y→zP (zW M) vs us→
  (∀i,i<us.length→eW (off+i)=us[i]?)→(∀j,(j<off∨off+us.length≤j)→j<t.size→eW j=rd j)→zY M.H M.G t y eW
 |[],[],x,y,off,rd,eW,hE,h,_,_,ee=>by
  cases h
  exact yQ (fun _ h=>h) (fun _ _=>rfl) _ _ _ _ (fun j hj=>ee j (by simp;omega) hj) hE
 |v::vs,u::us,x,y,off,rd,eW,hE,h,hc,hr,ee=>by
  unfold pz at h
  split at h
  ·rename_i z hz
   have h1:=M9 t x z off v u rd (fun j=>if j=off then some u else rd j) hE hz hc.1 (by simp) (fun j hj _=>by simp[hj])
   refine Na t vs us z y (off+1) _ eW h1 h hc.2 (fun i hi=>?_) (fun j hj mf=>?_)
   ·have:=hr (i+1) (by simp;omega)
    rw[show off+1+i=off+(i+1) by omega,this];simp
   ·by_cases e:j=off
    ·subst e
     have:=hr 0 (by simp)
     simp at this
     simp[this]
    ·simp only[e,if_false]
     refine ee j ?_ mf
     simp only[List.length_cons]
     omega
  ·cases h
 |[],_::_,_,_,_,_,_,_,_,hh,_,_=>hh.elim
 |_::_,[],_,_,_,_,_,_,_,hh,_,_=>hh.elim
theorem WS {i k sz j:Nat}(h:i≠k)(hj:j<sz):k*sz+j<i*sz∨i*sz+sz≤k*sz+j:=by
 rcases Nat.lt_or_gt_of_ne h with h|h
 ·have:=Nat.mul_le_mul_right sz (show i+1≤k by omega)
  rw[Nat.add_mul] at this;omega
 ·have:=Nat.mul_le_mul_right sz (show k+1≤i by omega)
  rw[Nat.add_mul] at this;omega
theorem yUc {C:zS}(hn:C.fp.Nodup){i k:Nat}{R R':Nat}{a b:Nat}(hi:C.rows[i]? =some (some R,a))(hk:C.rows[k]? =some (some R',b))(h:i≠k):R≠R':=by
 intro e
 subst e
 have sm:(C.rows.filterMap (·.1)).Nodup:=(List.nodup_append.1 hn).2.1
 clear hn
 have gen:∀(l:List (Option Nat×Nat)) (i k:Nat),i<k→l[i]? =some (some R,a)∨l[i]? =some (some R,b)→l[k]? =some (some R,b)∨l[k]? =some (some R,a)→(l.filterMap (·.1)).Nodup→False:=by
  intro l
  induction l with
  |nil=>intro i k _ h1 _ _;simp at h1
  |cons x l ih=>
   intro i k Nb h1 h2 hn
   obtain⟨k,rfl⟩:∃m,k=m+1:=⟨k-1,by omega⟩
   have dC:R∈l.filterMap (·.1):=by
    simp only[List.getElem?_cons_succ] at h2
    rcases h2 with h2|h2<;>exact List.mem_filterMap.2 ⟨_,List.mem_of_getElem? h2,rfl⟩
   cases i with
   |zero=>
    simp only[List.getElem?_cons_zero,Option.some.injEq] at h1
    have hx:x.1=some R:=by rcases h1 with h1|h1<;>rw[h1]
    rw[List.filterMap_cons_some hx] at hn
    exact(List.nodup_cons.1 hn).1 dC
   |succ i=>
    simp only[List.getElem?_cons_succ] at h1 h2
    refine ih i k (by omega) h1 h2 ?_
    cases hx:x.1 with
    |none=>rwa [List.filterMap_cons_none hx] at hn
    |some y=>rw[List.filterMap_cons_some hx] at hn;exact(List.nodup_cons.1 hn).2
 rcases Nat.lt_or_gt_of_ne h with aV|aV
 ·exact gen C.rows i k aV (.inl hi) (.inl hk) sm
 ·exact gen C.rows k i aV (.inr hk) (.inr hi) sm
theorem Nc {C:zS}(hn:C.fp.Nodup){k R B b:Nat}(hk:C.rows[k]? =some (some R,b))(hB:C.blk=some B):R≠B:=by
 intro e
 subst e
 have:=(List.nodup_append.1 hn).2.2 R (by simp[hB]) R (List.mem_filterMap.2 ⟨_,List.mem_of_getElem? hk,rfl⟩)
 exact this rfl
theorem jL {C:zS}{B:Nat}(h:C.blk=some B):B∈C.fp:=by simp[zS.fp,h]
theorem vI6 {C:zS}{k R b:Nat}(h:C.rows[k]? =some (some R,b)):R∈C.fp:=by
 simp only[zS.fp,List.mem_append,List.mem_filterMap]
 exact .inr ⟨_,List.mem_of_getElem? h,rfl⟩
theorem Nd {P:Program}{M:zB}{w:World}(ok:Ok M)(hM:M.H=w.heap){t:TypeId}{id:Nat}{o o':Obj}{C:zS}{B off:Nat}{vals:Array Value}{e:TypeId}{rv:Value}
  (aa:M.h id=some o) (aD:o.owned=true) (hC:M.κ id=some C) (hB:B∈C.fp) (hb:M.H[B]? =some (.cells vals e (0,0)))
  (hn:rv.cells.size=P.cellsOf t) (h0:0<P.cellsOf t) (aB:off+rv.cells.size≤vals.size) (h1:∀u∈rv.cells.toList,u.one1=true)
  (hO:∀M',M'.κ=κset M.κ id C→M'.F=M.F→M'.G=M.G→yK M M'→M'.H[B]? =some (.cells (yO vals off rv.cells.toList) e (0,0))→(∀b,b≠B→M'.H[b]? =M.H[b]?)→yR M' o' C):
  kK P (storeVar t ⟨B,off,none⟩ rv) M w [(id,o')]:=by
 have bB:w.heap[B]? =some (.cells vals e (0,0)):=by rw[←hM];exact hb
 have hr:=M4 (P:=P) bB hn h0 aB h1
 obtain⟨f1,f2,f3,f4⟩:=me bB (new:=yO vals off rv.cells.toList) (fg (by simpa using aB))
 have hH:∀b,b∉C.fp→(w.setRow B (yO vals off rv.cells.toList)).heap[b]? =M.H[b]? :=fun b mO=>by
  rw[hM];exact f3 b fun e=>mO (e▸hB)
 have cG:∀b,b<M.H.size→qX (w.setRow B (yO vals off rv.cells.toList)).heap b=qX M.H b:=fun b _=>by rw[hM];exact f4 b
 have x:=zB.write_ext ok aa aD hC C.le_refl hH cG o'
 have:=zB.write_ok ok aa aD hC C.le_refl (fun _ h=>h) (by rw[hM];exact f1) hH cG
  (hO (M.write id o' C _) rfl rfl rfl x f2 (fun b mO=>by rw[hM];exact f3 b mO))
 exact⟨_,_,hr,rfl,rfl,rfl,rfl,rfl,this.1,this.2⟩
theorem vEz {P:Program}{M:zB}{w:World}(ok:Ok M)(hM:M.H=w.heap){t:TypeId}{id off:Nat}{cells bG vs:List zG}{B:Nat}{C:zS}{rv:Value}
  (aa:M.h id=some (.box true cells)) (hC:M.κ id=some C) (hB:C.blk=some B) (dz:zP (zW M) vs rv.cells.toList) (hn:vs.length=P.cellsOf t) (h0:0<vs.length)
  (hp:ud cells off vs=some bG):kK P (storeVar t ⟨B,off,none⟩ rv) M w [(id,.box true bG)]:=by
 obtain⟨C',ax,hO⟩:=ok.obj id _ aa
 rw[hC] at ax;cases ax
 obtain⟨B',vals,e,k1,k2,k3,k4,k5⟩:=hO
 rw[hB] at k1;cases k1
 obtain⟨p1,p2⟩:=MZ vs cells off bG hp
 have hl:vs.length=rv.cells.size:=by simpa using dz.length
 have aB:off+rv.cells.size≤vals.size:=by
  have:=k4.length
  rcases p1 with rfl|p1
  ·simp at h0
  ·simp at this;omega
 refine Nd ok hM aa rfl hC (jL hB) k3 (by omega) (by omega) aB (M3 dz) fun M' _ _ hG x h1 h2=>?_
 refine⟨B,_,e,hB,k2,h1,?_,fun h=>(by cases h)⟩
 rw[p2]
 exact M5 x k4 dz (by simpa using aB)
theorem vKa {P:Program}{M:zB}{w:World}(ok:Ok M)(hM:M.H=w.heap){t:TypeId}{id i off:Nat}{ty:Ty}{xs:List ty.den}{x:ty.den}{vs:List zG}{B:Nat}{C:zS}{rv:Value}
  (aa:M.h id=some (.arr true ty xs)) (hC:M.κ id=some C) (hB:C.blk=some B) (hi:i<C.len) (dz:zP (zW M) vs rv.cells.toList) (hn:vs.length=P.cellsOf t) (h0:0<vs.length)
  (hp:pz ty (xs.getD i ty.dflt) off vs=some x):kK P (storeVar t ⟨B,i*C.sz+off,none⟩ rv) M w [(id,.arr true ty (xs.set i x))]:=by
 obtain⟨C',ax,hO⟩:=ok.obj id _ aa
 rw[hC] at ax;cases ax
 obtain⟨k1,k2,k3,k4⟩:=hO
 rw[hB] at k4
 obtain⟨vals,e,k5,k6,k7,k8⟩:=k4
 have hl:vs.length=rv.cells.size:=by simpa using dz.length
 have aag:off+vs.length≤ty.size:=by
  rcases WR hp with rfl|h
  ·simp at h0
  ·exact h
 have CT:i<xs.length:=by omega
 have e1:xs.getD i ty.dflt=xs[i]:=by simp[List.getD,CT]
 have aK:=Nat.mul_le_mul_right ty.size (show i+1≤xs.length by omega)
 rw[Nat.add_mul] at aK
 have aB:i*C.sz+off+rv.cells.size≤vals.size:=by rw[k2];omega
 refine Nd ok hM aa rfl hC (jL hB) k5 (by omega) (by omega) aB (M3 dz) fun M' _ _ hG xt h1 h2=>?_
 refine⟨by rw[List.length_set];exact k1,k2,k3,?_⟩
 rw[hB]
 refine⟨_,e,h1,fun h=>(by cases h),by rw[List.length_set,fg (by simpa using aB)];exact k7,fun k hk=>?_⟩
 rw[List.length_set] at hk
 have WT:=yQ (F:=M.G) (F':=M'.G) xt.G xt.sameG ty _ _ _ (fun _ _=>rfl) (k8 k hk)
 by_cases e2:k=i
 ·subst e2
  simp only[List.getElem_set_self]
  refine Na ty vs rv.cells.toList xs[k] x off _ _ WT (by rw[←e1];exact hp) (dz.mono fun _ _ h=>h.ext xt) (fun j hj=>?_) (fun j hj mf=>?_)
  ·rw[wW (by simpa using aB),if_neg (by rw[k2];omega),if_pos (by rw[k2];simp at hj⊢;omega),k2]
   congr 1;omega
  ·rw[wW (by simpa using aB)]
   simp only[Array.length_toList] at hj⊢
   rw[k2]
   split
   ·rfl
   ·rw[if_neg (by omega)]
 ·rw[List.getElem_set_ne (Ne.symm e2)]
  refine yQ (fun _ h=>h) (fun _ _=>rfl) ty _ _ _ (fun j hj=>?_) WT
  rw[wW (by simpa using aB)]
  simp only[Array.length_toList]
  rw[k2]
  rcases WS (Ne.symm e2) hj with h|h
  ·rw[if_pos (by omega)]
  ·rw[if_neg (by omega),if_neg (by omega)]
theorem yZe {P:Program}{M:zB}{w:World}(ok:Ok M)(hM:M.H=w.heap){t:TypeId}{id i j ver:Nat}{xs:List (List Int)}{n:Int}{R rl:Nat}{C:zS}
  (aa:M.h id=some (.mat ver xs)) (hC:M.κ id=some C) (hR:C.rows[i]? =some (some R,rl)) (hj:j<rl) (hn:1=P.cellsOf t):
  kK P (storeVar t ⟨R,j,none⟩ (.int .i64 n)) M w [(id,.mat ver (xs.set i ((xs.getD i []).set j n)))]:=by
 obtain⟨C',ax,hO⟩:=ok.obj id _ aa
 rw[hC] at ax;cases ax
 obtain⟨k1,k2,k3,k4,k5,k6⟩:=hO
 have hi:i<xs.length:=by
  rw[←k4]
  rcases Nat.lt_or_ge i C.rows.length with h|h
  ·exact h
  ·rw[List.getElem?_eq_none h] at hR;cases hR
 cases hB:C.blk with
 |none=>rw[hB] at k6;subst k6;simp at hi
 |some B=>
  rw[hB] at k6
  obtain⟨vals,e,k7,k8,k9⟩:=k6
  obtain⟨rb,v,q1,q2,q3,q4⟩:=k9 i hi
  rw[hR] at q1
  cases q1
  obtain⟨rv,er,q5,q6⟩:=q4 R rfl
  have hRB:R≠B:=Nc k5 hR hB
  have mf:j<rv.size:=by
   have:=q6 j hj
   rcases Nat.lt_or_ge j rv.size with h|h
   ·exact h
   ·rw[Array.getElem?_eq_none h] at this;cases this
  have e1:xs.getD i []=xs[i]:=by simp[List.getD,hi]
  refine Nd ok hM aa rfl hC (vI6 hR) q5 (by rw[←hn];rfl) (by omega) (by show j+1≤rv.size;omega) (by intro u hu;simp[Value.cells] at hu;subst hu;rfl) fun M' _ _ hG x h1 h2=>?_
  refine⟨k1,by rw[List.length_set];exact k2,k3,by rw[List.length_set];exact k4,k5,?_⟩
  rw[hB]
  refine⟨vals,e,by rw[h2 B (Ne.symm hRB)];exact k7,by rw[List.length_set];exact k8,fun k hk=>?_⟩
  rw[List.length_set] at hk
  by_cases e2:k=i
  ·subst e2
   simp only[List.getElem_set_self,e1,List.length_set]
   refine⟨some R,v,hR,q2,q3.ext x,fun R' uq=>?_⟩
   cases uq
   refine⟨_,er,h1,fun m hm=>?_⟩
   rw[wW (by show j+1≤rv.size;omega)]
   show(if m<j then rv[m]? else if m<j+1 then[Value.int .i64 n][m-j]? else rv[m]?)=_
   by_cases e3:m=j
   ·subst e3
    rw[if_neg (by omega),if_pos (by omega)]
    simp
   ·rw[List.getElem_set_ne (Ne.symm e3)]
    have:=q6 m hm
    split
    ·exact this
    ·rw[if_neg (by omega)];exact this
  ·rw[List.getElem_set_ne (Ne.symm e2)]
   obtain⟨mP,v',p1,p2,p3,p4⟩:=k9 k hk
   refine⟨mP,v',p1,p2,p3.ext x,fun R' uq=>?_⟩
   subst uq
   obtain⟨pI,CU,p5,p6⟩:=p4 R' rfl
   exact⟨pI,CU,by rw[h2 R' (yUc k5 p1 hR e2)];exact p5,p6⟩
theorem GV {x:Option Nat×Nat}:∀(l:List (Option Nat×Nat)) (i:Nat),(l.filterMap (·.1)).Nodup→(∀R,x.1=some R→R∉l.filterMap (·.1))→
  ((l.set i x).filterMap (·.1)).Nodup∧∀y∈(l.set i x).filterMap (·.1),y∈l.filterMap (·.1)∨x.1=some y
 |[],_,h,_=>⟨by simp,by simp⟩
 |a::l,0,h,hx=>by
  have hl:(l.filterMap (·.1)).Nodup:=by
   cases ha:a.1 with
   |none=>rwa [List.filterMap_cons_none ha] at h
   |some y=>rw[List.filterMap_cons_some ha] at h;exact(List.nodup_cons.1 h).2
  have cO:∀y∈l.filterMap (·.1),y∈(a::l).filterMap (·.1):=fun y hy=>by
   cases ha:a.1 with
   |none=>rwa [List.filterMap_cons_none ha]
   |some z=>rw[List.filterMap_cons_some ha];exact List.mem_cons_of_mem _ hy
  simp only[List.set_cons_zero]
  cases dD:x.1 with
  |none=>
   rw[List.filterMap_cons_none dD]
   exact⟨hl,fun y hy=>.inl (cO y hy)⟩
  |some R=>
   rw[List.filterMap_cons_some dD]
   refine⟨List.nodup_cons.2 ⟨fun hR=>hx R dD (cO R hR),hl⟩,fun y hy=>?_⟩
   rcases List.mem_cons.1 hy with rfl|hy
   ·exact .inr rfl
   ·exact .inl (cO y hy)
 |a::l,i+1,h,hx=>by
  simp only[List.set_cons_succ]
  cases ha:a.1 with
  |none=>
   rw[List.filterMap_cons_none ha] at h hx⊢
   rw[List.filterMap_cons_none ha]
   exact GV l i h hx
  |some z=>
   rw[List.filterMap_cons_some ha] at h hx⊢
   rw[List.filterMap_cons_some ha]
   obtain⟨h1,h2⟩:=List.nodup_cons.1 h
   obtain⟨k1,k2⟩:=GV l i h2 fun R hR hm=>hx R hR (List.mem_cons_of_mem _ hm)
   refine⟨List.nodup_cons.2 ⟨fun hz=>?_,k1⟩,fun y hy=>?_⟩
   ·rcases k2 z hz with hz|hz
    ·exact h1 hz
    ·exact hx z hz (List.mem_cons_self ..)
   ·rcases List.mem_cons.1 hy with rfl|hy
    ·exact .inl (List.mem_cons_self ..)
    ·rcases k2 y hy with hy|hy
     ·exact .inl (List.mem_cons_of_mem _ hy)
     ·exact .inr hy
def zB.absorb (M:zB)(id jd:Nat)(o:Obj)(C:zS)(H:Array Go.Obj):zB:={M with κ:=κset M.κ id C,h:=yG (yG M.h jd .gone) id o,H:=H}
theorem zB.absorb_ok {M:zB}(ok:Ok M){id jd:Nat}{o oj o':Obj}{C Cj C':zS}{H':Array Go.Obj}(bc:id≠jd)(aa:M.h id=some o)(aD:o.owned=true)(hC:M.κ id=some C)
    (cH:M.h jd=some oj) (sn:oj.owned=true) (df:M.κ jd=some Cj) (hle:C.le C') (kI:∀b∈C'.fp,b∈C.fp∨b∈Cj.fp) (dM:H'.size=M.H.size)
    (hH:∀b,b∉C.fp→H'[b]? =M.H[b]?) (cG:∀b,b<M.H.size→qX H' b=qX M.H b)
    (hO:yK M (M.absorb id jd o' C' H')→yR (M.absorb id jd o' C' H') o' C'):Ok (M.absorb id jd o' C' H')∧yT M (M.absorb id jd o' C' H'):=by
  have sk:∀b,M.F b→b∉C.fp:=fun b hF hb=>(ok.own b ⟨id,o,C,aa,aD,hC,hb⟩).1 hF
  have x:yK M (M.absorb id jd o' C' H'):=
    { κ:=fun n D h=>by
        by_cases e:n=id
        · subst e
          rw[hC] at h
          cases h
          exact⟨C',κset_same _ _ _,hle⟩
        · exact⟨D,by simp only[zB.absorb];rw[κset_ne _ _ e];exact h,D.le_refl⟩
      F:=fun _ h=>h
      G:=fun _ h=>h
      same:=fun b h=>hH b (sk b h)
      sameG:=fun b h=>hH b (sk b (ok.GF b h))
      bsz:=cG}
  have bB:∀b∈C'.fp,qR M b:=fun b hb=>by
    rcases kI b hb with hb|hb
    · exact⟨id,o,C,aa,aD,hC,hb⟩
    · exact⟨jd,oj,Cj,cH,sn,df,hb⟩
  have dg:∀n q,n≠id→(M.absorb id jd o' C' H').h n=some q→q.owned=true→n≠jd∧M.h n=some q:=by
    intro n q e h1 h2
    simp only[zB.absorb] at h1
    rw[yJ _ _ e] at h1
    by_cases e':n=jd
    · subst e'
      rw[yH] at h1
      cases h1
      cases h2
    · rw[yJ _ _ e'] at h1
      exact⟨e',h1⟩
  have gf:∀b,qR (M.absorb id jd o' C' H') b→qR M b:=by
    rintro b ⟨n,q,D,h1,h2,h3,h4⟩
    by_cases e:n=id
    · subst e
      simp only[zB.absorb,κset_same,Option.some.injEq] at h3
      subst h3
      exact bB b h4
    · obtain⟨e',eH⟩:=dg n q e h1 h2
      simp only[zB.absorb] at h3
      rw[κset_ne _ _ e] at h3
      exact⟨n,q,D,eH,h2,h3,h4⟩
  refine⟨ok.build x (fun n=>n=id∨n=jd) (fun n hn=>?_) (fun n hn=>κset_ne _ _ fun e=>hn (.inl e)) ?_ ?_ (by simp only[zB.absorb];omega) ?_ ?_ ?_ ok.GF ?_,x,by simp only[zB.absorb];omega,?_,fun b hb _=>gf b hb,fun b h _=>.inl h,fun b h _=>.inl h⟩
  · simp only[zB.absorb]
    rw[yJ _ _ fun e=>hn (.inl e),yJ _ _ fun e=>hn (.inr e)]
  · intro n q D hn h1 h2 h3 b hb
    exact hH b fun hc=>ok.disj n id q o D C b (fun e=>hn (.inl e)) h1 aa h2 aD h3 hC hb hc
  · intro n q D hn h1 h2 h3 b hb
    exact(ok.own b ⟨n,q,D,h1,h2,h3,hb⟩).1
  · rintro n q (rfl|rfl) h1
    · simp only[zB.absorb,yH,Option.some.injEq] at h1
      subst h1
      exact⟨C',κset_same _ _ _,hO x⟩
    · simp only[zB.absorb] at h1
      rw[yJ _ _ (Ne.symm bc),yH] at h1
      cases h1
      exact⟨Cj,by simp only[zB.absorb];rw[κset_ne _ _ (Ne.symm bc)];exact df,trivial⟩
  · rintro n (rfl|rfl) h1
    · simp only[zB.absorb,yH] at h1
      cases h1
    · simp only[zB.absorb] at h1
      rw[yJ _ _ (Ne.symm bc),yH] at h1
      cases h1
  · rintro n q D b (rfl|rfl) h1 h2 h3 hb
    · simp only[zB.absorb,κset_same,Option.some.injEq] at h3
      subst h3
      have hbo:=ok.own b (bB b hb)
      refine⟨fun j qj Dj hj k1 k2 k3 k4=>?_,hbo.1,by simp only[zB.absorb];omega⟩
      obtain⟨Nf,xT⟩:=dg j qj hj k1 k2
      simp only[zB.absorb] at k3
      rw[κset_ne _ _ hj] at k3
      rcases kI b hb with hb|hb
      · exact ok.disj j n qj o Dj C b hj xT aa k2 aD k3 hC k4 hb
      · exact ok.disj j jd qj oj Dj Cj b Nf xT cH k2 sn k3 df k4 hb
    · simp only[zB.absorb] at h1
      rw[yJ _ _ (Ne.symm bc),yH] at h1
      cases h1
      cases h2
  · intro b hb
    have:=ok.Flt b hb
    simp only[zB.absorb];omega
  · intro b hb hn
    exact hH b fun hc=>hn ⟨id,o,C,aa,aD,hC,hc⟩
theorem CV {M:zB}{t:Ty}{xs:List t.den}{C:zS}(h:yR M (.arr true t xs) C):C.rows=[]∧C.fp=C.blk.toList:=by
 have:=h.2.2.1 rfl
 exact⟨this,by simp[zS.fp,this]⟩
theorem Ng {M:zB}{ys:List Int}{C:zS}{jd:Nat}{v:Value}(hC:M.κ jd=some C)(hO:yR M (.arr true (.int .i64) ys) C)(hv:zW M (.osl jd none) v):
  kG M.H C.blk ys.length v∧∀R,C.blk=some R→∃rv er,M.H[R]? =some (.cells rv er (0,0))∧∀j (h':j<ys.length),rv[j]? =some (.int .i64 ys[j]):=by
 obtain⟨h1,h2,h3,h4⟩:=hO
 obtain⟨C',ax,A,c,rfl,h⟩:=hv
 rw[hC] at ax;cases ax
 cases hB:C.blk with
 |none=>
  rw[hB] at h
  obtain⟨rfl,e,rfl⟩:=h
  exact⟨⟨by rw[e],by omega⟩,fun R hR=>by cases hR⟩
 |some B=>
  rw[hB] at h h4
  obtain⟨hc,a,rfl,ha,hs⟩:=h
  obtain⟨vals,e,h5,h6,h7,h8⟩:=h4
  refine⟨⟨a,c,by rw[h1],by omega,by simpa using ha,by simpa[h2,Ty.size] using hs⟩,fun R hR=>?_⟩
  cases hR
  refine⟨vals,e,h5,fun j hj=>?_⟩
  have:=h8 j hj
  simpa[zY,Ty.size] using this
theorem vDz {P:Program}{M:zB}{w:World}(ok:Ok M)(hM:M.H=w.heap){t:TypeId}{id jd i ver:Nat}{xs:List (List Int)}{ys:List Int}{B:Nat}{C:zS}{rv:Value}
  (aa:M.h id=some (.mat ver xs)) (hC:M.κ id=some C) (hB:C.blk=some B) (hi:i<C.len) (cH:M.h jd=some (.arr true (.int .i64) ys)) (hv:zW M (.osl jd none) rv) (hn:1=P.cellsOf t):
  kK P (storeVar t ⟨B,i,none⟩ rv) M w [(jd,.gone),(id,.mat (ver+1) (xs.set i ys))]:=by
 obtain⟨C',ax,hO⟩:=ok.obj id _ aa
 rw[hC] at ax;cases ax
 obtain⟨Cj,df,lC⟩:=ok.obj jd _ cH
 obtain⟨jr,jf⟩:=CV lC
 have bc:id≠jd:=fun e=>by rw[e,cH] at aa;cases aa
 obtain⟨r1,r2⟩:=Ng df lC hv
 obtain⟨k1,k2,k3,k4,k5,k6⟩:=hO
 rw[hB] at k6
 obtain⟨vals,e,k7,k8,k9⟩:=k6
 have bB:w.heap[B]? =some (.cells vals e (0,0)):=by rw[←hM];exact k7
 have ca:=hv.one
 have aA:rv.cells=#[rv]:=by cases rv<;>first|rfl|cases ca
 have aB:i+rv.cells.size≤vals.size:=by rw[aA];show i+1≤vals.size;omega
 have dE:i+rv.cells.toList.length≤vals.size:=by rw[Array.length_toList];exact aB
 have hr:=M4 (P:=P) (t:=t) (off:=i) (rv:=rv) bB (by rw[aA];exact hn) (by omega) aB (by intro u hu;rw[aA] at hu;simp at hu;subst hu;exact ca)
 obtain⟨f1,f2,f3,f4⟩:=me bB (new:=yO vals i rv.cells.toList) (fg dE)
 have dP:∀R,Cj.blk=some R→R∉C.fp:=fun R hR hm=>ok.disj id jd _ _ C Cj R bc aa cH rfl rfl hC df hm (jL hR)
 have dd:=List.nodup_append.1 k5
 obtain⟨s1,s2⟩:=GV (x:=(Cj.blk,ys.length)) C.rows i dd.2.1 (fun R hR hm=>dP R hR (by simp only[zS.fp,List.mem_append];exact .inr hm))
 let D:zS:={C with ver:=ver+1,rows:=C.rows.set i (Cj.blk,ys.length)}
 have ur:∀b∈D.fp,b∈C.fp∨b∈Cj.fp:=fun b hb=>by
  simp only[zS.fp,List.mem_append] at hb
  rcases hb with hb|hb
  ·exact .inl (by simp only[zS.fp,List.mem_append];exact .inl hb)
  ·rcases s2 b hb with hb|hb
   ·exact .inl (by simp only[zS.fp,List.mem_append];exact .inr hb)
   ·exact .inr (jL hb)
 have uu:D.fp.Nodup:=by
  refine List.nodup_append.2 ⟨dd.1,s1,fun a ha b hb e=>?_⟩
  subst e
  rcases s2 a hb with hb|hb
  ·exact dd.2.2 a ha a hb rfl
  ·exact dP a hb (by simp only[zS.fp,List.mem_append];exact .inl ha)
 have ey:i<xs.length:=by omega
 have:=zB.absorb_ok (H':=(w.setRow B (yO vals i rv.cells.toList)).heap) (o':=.mat (ver+1) (xs.set i ys)) (C':=D) ok bc aa rfl hC cH rfl df ⟨rfl,rfl,rfl,by show C.ver≤ver+1;omega,fun e=>by have:ver+1=C.ver:=e;omega⟩ ur
  (by rw [hM]; exact f1) (fun b mO => by rw [hM]; exact f3 b fun e => mO (e ▸ jL hB)) (fun b _ => by rw [hM]; exact f4 b) (fun x=>by
   refine⟨rfl,by rw[List.length_set];exact k2,k3,by simp only[D,List.length_set];exact k4,uu,?_⟩
   have Nh:D.blk=some B:=hB
   rw[Nh]
   refine⟨_,e,f2,by rw[List.length_set,fg dE];exact k8,fun k hk=>?_⟩
   rw[List.length_set] at hk
   by_cases e2:k=i
   ·subst e2
    simp only[List.getElem_set_self]
    refine⟨Cj.blk,rv,?_,?_,r1.ext x,fun R hR=>?_⟩
    ·simp only[D];rw[List.getElem?_set_self (by omega)]
    ·rw[wW dE,if_neg (by omega),if_pos (by rw[aA];show k<k+1;omega),aA]
     simp
    ·obtain⟨pI,er,q5,q6⟩:=r2 R hR
     refine⟨pI,er,?_,q6⟩
     have:R≠B:=fun e=>dP R hR (e▸jL hB)
     show(w.setRow B _).heap[R]? =_
     rw[f3 R this,←hM];exact q5
   ·rw[List.getElem_set_ne (Ne.symm e2)]
    obtain⟨mP,v',p1,p2,p3,p4⟩:=k9 k hk
    refine⟨mP,v',?_,?_,p3.ext x,fun R' uq=>?_⟩
    ·simp only[D];rw[List.getElem?_set_ne (Ne.symm e2)];exact p1
    ·rw[wW dE,aA]
     show(if k<i then vals[k]? else if k<i+1 then _ else vals[k]?)=_
     split
     ·exact p2
     ·rw[if_neg (by omega)];exact p2
    ·subst uq
     obtain⟨pI,CU,p5,p6⟩:=p4 R' rfl
     refine⟨pI,CU,?_,p6⟩
     have:R'≠B:=Nc k5 p1 hB
     show(w.setRow B _).heap[R']? =_
     rw[f3 R' this,←hM];exact p5)
 exact⟨_,_,hr,rfl,rfl,rfl,rfl,rfl,this.1,this.2⟩
theorem vJp {P:Program}{M:zB}{w:World}(ok:Ok M)(hM:M.H=w.heap){t:TypeId}{id jd ver n:Nat}{xs:List (List Int)}{ys:List Int}{B:Nat}{C:zS}{rv:Value}
  (aa:M.h id=some (.pmat ver xs n)) (hC:M.κ id=some C) (hB:C.blk=some B) (hi:xs.length<C.len) (cH:M.h jd=some (.arr true (.int .i64) ys)) (hv:zW M (.osl jd none) rv) (hn:1=P.cellsOf t):
  kK P (storeVar t ⟨B,xs.length,none⟩ rv) M w [(jd,.gone),(id,.pmat (ver+1) (xs++[ys]) n)]:=by
 obtain⟨C',ax,hO⟩:=ok.obj id _ aa
 rw[hC] at ax;cases ax
 obtain⟨Cj,df,lC⟩:=ok.obj jd _ cH
 obtain⟨jr,jf⟩:=CV lC
 have bc:id≠jd:=fun e=>by rw[e,cH] at aa;cases aa
 obtain⟨r1,r2⟩:=Ng df lC hv
 obtain⟨k1,k2,k3,k4,k5,k0,k6⟩:=hO
 rw[hB] at k6
 obtain⟨vals,e,k7,k8,k9⟩:=k6
 have bB:w.heap[B]? =some (.cells vals e (0,0)):=by rw[←hM];exact k7
 have ca:=hv.one
 have aA:rv.cells=#[rv]:=by cases rv<;>first|rfl|cases ca
 have aB:xs.length+rv.cells.size≤vals.size:=by rw[aA];show xs.length+1≤vals.size;omega
 have dE:xs.length+rv.cells.toList.length≤vals.size:=by rw[Array.length_toList];exact aB
 have hr:=M4 (P:=P) (t:=t) (off:=xs.length) (rv:=rv) bB (by rw[aA];exact hn) (by omega) aB (by intro u hu;rw[aA] at hu;simp at hu;subst hu;exact ca)
 obtain⟨f1,f2,f3,f4⟩:=me bB (new:=yO vals xs.length rv.cells.toList) (fg dE)
 have dP:∀R,Cj.blk=some R→R∉C.fp:=fun R hR hm=>ok.disj id jd _ _ C Cj R bc aa cH rfl rfl hC df hm (jL hR)
 have dd:=List.nodup_append.1 k5
 have CW:(C.rows++[(Cj.blk,ys.length)]).filterMap (·.1)=C.rows.filterMap (·.1)++Cj.blk.toList:=by
  rw[List.filterMap_append]
  cases Cj.blk<;>simp
 have s1:((C.rows++[(Cj.blk,ys.length)]).filterMap (·.1)).Nodup:=by
  rw[CW]
  refine List.nodup_append.2 ⟨dd.2.1,by cases Cj.blk<;>simp,fun x hx y hy e=>?_⟩
  subst e
  have:Cj.blk=some x:=by simpa using hy
  exact dP x this (by simp only[zS.fp,List.mem_append];exact .inr hx)
 have s2:∀y∈(C.rows++[(Cj.blk,ys.length)]).filterMap (·.1),y∈C.rows.filterMap (·.1)∨Cj.blk=some y:=fun y hy=>by
  rw[CW] at hy
  rcases List.mem_append.1 hy with h|h
  ·exact .inl h
  ·exact .inr (by simpa using h)
 let D:zS:={C with ver:=ver+1,rows:=C.rows++[(Cj.blk,ys.length)]}
 have ur:∀b∈D.fp,b∈C.fp∨b∈Cj.fp:=fun b hb=>by
  simp only[zS.fp,List.mem_append] at hb
  rcases hb with hb|hb
  ·exact .inl (by simp only[zS.fp,List.mem_append];exact .inl hb)
  ·rcases s2 b hb with hb|hb
   ·exact .inl (by simp only[zS.fp,List.mem_append];exact .inr hb)
   ·exact .inr (jL hb)
 have uu:D.fp.Nodup:=by
  refine List.nodup_append.2 ⟨dd.1,s1,fun a ha b hb e=>?_⟩
  subst e
  rcases s2 a hb with hb|hb
  ·exact dd.2.2 a ha a hb rfl
  ·exact dP a hb (by simp only[zS.fp,List.mem_append];exact .inl ha)
 have:=zB.absorb_ok (H':=(w.setRow B (yO vals xs.length rv.cells.toList)).heap) (o':=.pmat (ver+1) (xs++[ys]) n) (C':=D) ok bc aa rfl hC cH rfl df ⟨rfl,rfl,rfl,by show C.ver≤ver+1;omega,fun e=>by have:ver+1=C.ver:=e;omega⟩ ur
  (by rw [hM]; exact f1) (fun b mO => by rw [hM]; exact f3 b fun e => mO (e ▸ jL hB)) (fun b _ => by rw [hM]; exact f4 b) (fun x=>by
   refine⟨rfl,k2,k3,by simp only[D,List.length_append,k4];rfl,uu,by simp;omega,?_⟩
   have Nh:D.blk=some B:=hB
   rw[Nh]
   refine⟨_,e,f2,by rw[fg dE];exact k8,fun k hk=>?_⟩
   rw[List.length_append,List.length_singleton] at hk
   by_cases e2:k=xs.length
   ·subst e2
    simp only[List.getElem_concat_length]
    refine⟨Cj.blk,rv,?_,?_,r1.ext x,fun R hR=>?_⟩
    ·simp only[D];rw[List.getElem?_append_right (by omega),k4];simp
    ·rw[wW dE,if_neg (by omega),if_pos (by rw[aA];show xs.length<xs.length+1;omega),aA]
     simp
    ·obtain⟨pI,er,q5,q6⟩:=r2 R hR
     refine⟨pI,er,?_,q6⟩
     have:R≠B:=fun e=>dP R hR (e▸jL hB)
     show(w.setRow B _).heap[R]? =_
     rw[f3 R this,←hM];exact q5
   ·have mQ:k<xs.length:=by omega
    rw[List.getElem_append_left mQ]
    obtain⟨mP,v',p1,p2,p3,p4⟩:=k9 k mQ
    refine⟨mP,v',?_,?_,p3.ext x,fun R' uq=>?_⟩
    ·simp only[D];rw[List.getElem?_append_left (by omega)];exact p1
    ·rw[wW dE,aA]
     show(if k<xs.length then vals[k]? else if k<xs.length+1 then _ else vals[k]?)=_
     rw[if_pos mQ]
     exact p2
    ·subst uq
     obtain⟨pI,CU,p5,p6⟩:=p4 R' rfl
     refine⟨pI,CU,?_,p6⟩
     have:R'≠B:=Nc k5 p1 hB
     show(w.setRow B _).heap[R']? =_
     rw[f3 R' this,←hM];exact p5)
 exact⟨_,_,hr,rfl,rfl,rfl,rfl,rfl,this.1,this.2⟩
theorem GW (h:Hp){n:Nat}:∀{u:zZ},(u.any fun p=>Nat.beq p.1 n)=false→qJ h u n=h n
 |[],_=>rfl
 |(id,o)::u,hu=>by
  simp only[List.any_cons,Bool.or_eq_false_iff] at hu
  have:n≠id:=fun e=>by subst e;simp at hu
  show qJ (yG h id o) u n=h n
  rw[GW (yG h id o) hu.2,yJ _ _ this]
theorem vAd {P:Program}{M:zB}{w:World}(ok:Ok M)(hM:M.H=w.heap){t:TypeId}{a v r:zD}{u:zZ}{ra rv:Value}(ha:zU M a ra)(hv:zU M v rv)
  (h:yI (xx P M.h t a v) r u):r=.undef∧kK P (Instr.storeAt t ra rv) M w u:=by
 unfold xx at h
 split at h
 ·exact h.elim
 ·rename_i vs dz
  have dh:=GR dz hv
  cases hb:(Nat.beq vs.length (P.cellsOf t)&&Nat.blt 0 vs.length) with
  |false=>rw[hb] at h;exact h.elim
  |true=>
   rw[hb] at h
   simp only[cond_true] at h
   simp only[Bool.and_eq_true] at hb
   have hn:=Nat.eq_of_beq_eq_true hb.1
   have h0:=GU hb.2
   split at h
   ·rename_i id off
    split at h
    ·rename_i cells aa
     split at h
     ·rename_i bG hp
      obtain⟨_,rfl,rfl⟩:=fc h
      obtain⟨C,B,hC,hB,rfl⟩:=ha
      refine⟨rfl,?_⟩
      have:=vEz (P:=P) ok hM (t:=t) aa hC hB dh hn h0 hp
      simpa[Instr.storeAt,kK,il] using this
     ·exact h.elim
    ·exact h.elim
   ·rename_i id i off
    split at h
    ·rename_i ty xs Ni u' aa uv
     split at h
     ·rename_i x hp
      cases hu:(u'.any fun p=>Nat.beq p.1 id) with
      |true=>rw[hu] at h;exact h.elim
      |false=>
      rw[hu] at h
      obtain⟨_,rfl,rfl⟩:=fc h
      refine⟨rfl,?_⟩
      obtain⟨M1,a1,a2,a3,a4,a5,a6,a7⟩:=M8 ok (wN.refl _) dh uv
      obtain⟨C,B,hC,hB,hi,hra⟩:=zW.ext (c:=.eptr id i off) a4.ext ha
      have mR:M1.h id=some (.arr true ty xs):=by rw[a2,GW M.h hu];exact aa
      have xU:=a5.length
      have pJ:=dh.length
      obtain⟨w',M',b1,b2,b3,b4,b5,b6,b7,b8⟩:=vKa (P:=P) a3 (a1.trans hM) (t:=t) mR hC hB hi a5 (by omega) (by omega) hp
      subst hra
      exact⟨w',M',by simpa[Instr.storeAt,il] using b1,b2,b3,b4,b5,by rw[b6,a2,iZ],b7,a4.trans b8⟩
     ·exact h.elim
    ·exact h.elim
   ·rename_i id i
    split at h
    ·rename_i ver xs jd aa
     split at h
     ·rename_i ys cH
      obtain⟨_,rfl,rfl⟩:=fc h
      obtain⟨C,B,hC,hB,hi,rfl⟩:=ha
      refine⟨rfl,?_⟩
      have:=vDz (P:=P) ok hM (t:=t) aa hC hB hi cH hv (by cases dz;exact hn)
      simpa[Instr.storeAt,kK,il] using this
     ·exact h.elim
    ·rename_i ver xs n jd aa
     split at h
     ·rename_i ys cH
      obtain⟨CT,rfl,rfl⟩:=fc h
      obtain⟨C,B,hC,hB,hi,rfl⟩:=ha
      have CT:=Nat.eq_of_beq_eq_true CT
      subst CT
      refine⟨rfl,?_⟩
      have:=vJp (P:=P) ok hM (t:=t) aa hC hB hi cH hv (by cases dz;exact hn)
      simpa[Instr.storeAt,kK,il] using this
     ·exact h.elim
    ·exact h.elim
   ·rename_i id i j ver
    split at h
    ·rename_i v' xs n aa
     cases pK:Nat.beq v' ver with
     |false=>rw[pK] at h;exact h.elim
     |true=>
     rw[pK] at h
     have e:=Nat.eq_of_beq_eq_true pK
     subst e
     obtain⟨_,rfl,rfl⟩:=fc h
     obtain⟨C,hC,h1,hle,hm⟩:=ha
     obtain⟨C',ax,hO⟩:=ok.obj _ _ aa
     rw[hC] at ax;cases ax
     obtain⟨R,rl,k1,k2,rfl⟩:=hm hO.1
     refine⟨rfl,?_⟩
     have Nj:rv=.int .i64 n:=hv
     subst Nj
     have:=yZe (P:=P) ok hM (t:=t) (n:=n) aa hC k1 k2 (by cases dz;exact hn)
     simpa[Instr.storeAt,kK,il] using this
    ·exact h.elim
   ·exact h.elim
theorem jV {c:Bool}{s:yE}{v:zD}{u:zZ}(h:yI (bif c then s else .stuck) v u):c=true∧yI s v u:=by
 cases c with
 |true=>exact⟨rfl,h⟩
 |false=>exact h.elim
theorem GX {c:Bool}{s:yE}{v:zD}{u:zZ}(h:yI (bif c then .stuck else s) v u):c=false∧yI s v u:=by
 cases c with
 |false=>exact⟨rfl,h⟩
 |true=>exact h.elim
theorem GY {a b:Nat}(h:Nat.beq a b=false):a≠b:=fun e=>by subst e;simp at h
theorem xV {i:Int}{n:Nat}(h:zE i n=true):0≤i∧i<n∧i.toNat<n:=by
 simp only[zE,Bool.and_eq_true,decide_eq_true_eq] at h
 omega
theorem CX {i:Int}{mk:Nat→zG}:∀{n j:Nat} {v:zD} {u:zZ},GM (xv i mk j n) v u→∃k,j≤k∧k<j+n∧i=(k:Int)∧v=.c (mk k)∧u=[]
 |0,_,_,_,h=>h.elim
 |n+1,j,v,u,h=>by
  rcases h with⟨h1,h2,h3⟩|⟨_,h⟩
  ·exact⟨j,Nat.le_refl _,by omega,of_decide_eq_true h1,h2,h3⟩
  ·obtain⟨k,k1,k2,k3⟩:=CX h
   exact⟨k,by omega,by omega,k3⟩
theorem vIq {P:Program}{M:zB}{w:World}(ok:Ok M)(hM:M.H=w.heap){s:TypeId}{a v:zD}{f:Nat}{u:zZ}{ra:Value}(ha:zU M a ra)
  (h:yI (My P s a f) v u):qL P (Instr.fieldAt s ra f) M w v u:=by
 unfold My at h
 split at h
 ·rename_i fs hs
  split at h
  ·rename_i fd hf
   obtain⟨hz,h⟩:=GX h
   have hz:=GY hz
   obtain⟨i,hi⟩:=mN (P:=P) (t:=fd.type) (by omega)
   have hr:∀B o,(Instr.fieldAt s (.pointer (some ⟨B,o,none⟩)) f).run P w=.ok (.pointer (some ⟨B,o+fd.offset,none⟩)) w:=by
    intro B o
    simp[Instr.fieldAt,run_underlying hs,hf,il,fieldPlace,gQ w hi,hz,Addr.add_lit]
   split at h
   ·obtain⟨rfl,rfl⟩:=vP h
    obtain⟨C,B,hC,hB,rfl⟩:=ha
    exact qL.pure ok hM (hr _ _) ⟨C,B,hC,hB,rfl⟩
   ·obtain⟨rfl,rfl⟩:=vP h
    obtain⟨C,B,hC,hB,hi,rfl⟩:=ha
    exact qL.pure ok hM (hr _ _) ⟨C,B,hC,hB,hi,by rw[Nat.add_assoc]⟩
   ·obtain⟨rfl,rfl⟩:=vP h
    obtain⟨B,o,rfl,hB,hE⟩:=ha
    exact qL.pure ok hM (hr _ _) ⟨B,o,by rw[Nat.add_assoc],hB,hE⟩
   ·exact h.elim
  ·exact h.elim
 ·exact h.elim
theorem CY {P:Program}{w:World}{t e:TypeId}{A:Option Addr}{n c:Nat}{k:IntKind}{i:Int}{B o:Nat}(hu:P.underlying t=some (.slice e))(h0:0≤i)(h1:i<n)(he:0<P.cellsOf e)
  (hA:A=some ⟨B,o,none⟩):(Instr.indexAt t (.slice A n c) (.int k i)).run P w=.ok (.pointer (some ⟨B,o+i.toNat*P.cellsOf e,none⟩)) w:=by
 obtain⟨x,hx⟩:=mN he
 subst hA
 simp[Instr.indexAt,asIntOf,run_underlying hu,h0,h1,gQ w hx,Addr.add_lit]
theorem vIi {P:Program}{M:zB}{w:World}(ok:Ok M)(hM:M.H=w.heap){t:TypeId}{x i v:zD}{u:zZ}{rx ri:Value}(hx:zU M x rx)(hi:zU M i ri)
  (h:yI (xy P M.h t x i) v u):qL P (Instr.indexAt t rx ri) M w v u:=by
 unfold xy at h
 split at h
 ·rename_i e c k n hu
  have lD:ri=.int k n:=hi
  subst lD
  split at h
  ·rename_i sh ty xs
   obtain⟨hz,h⟩:=jV h
   have hz:=Nat.eq_of_beq_eq_true hz
   obtain⟨hb,rfl,rfl⟩:=lz h
   obtain⟨b0,b1,b2⟩:=xV hb
   have mS:zY M.H (bif sh then M.G else M.F) (.sl ty) xs (fun _=>some rx):=hx
   simp only[zY,Option.some.injEq] at mS
   obtain⟨A,m,c,rfl,rfl,hc,mS⟩:=mS
   rcases mS with⟨rfl,_⟩|⟨B,o,rfl,hB,hE⟩
   ·simp at b2
   ·refine qL.pure ok hM (CY hu b0 b1 (by rw[hz];exact ty.size_pos) rfl) ⟨B,o+n.toNat*P.cellsOf e,rfl,hB,?_⟩
    have e1:xs.getD n.toNat ty.dflt=xs[n.toNat]:=by simp[List.getD,b2]
    rw[e1,hz]
    exact hE _ b2
  ·rename_i id r
   split at h
   ·rename_i own ty xs aa
    obtain⟨hz,h⟩:=jV h
    have hz:=Nat.eq_of_beq_eq_true hz
    obtain⟨C,hC,hS⟩:=hx
    obtain⟨C',ax,hO⟩:=ok.obj _ _ aa
    rw[hC] at ax;cases ax
    have hlen:=hO.1
    have dM:=hO.2.1
    have key:∀lo m,lo+m≤C.len→wH M.H C lo m rx→0≤n→n<(m:Int)→∃B,C.blk=some B∧(Instr.indexAt t rx (.int k n)).run P w=.ok (.pointer (some ⟨B,(lo+n.toNat)*C.sz+0,none⟩)) w:=by
     intro lo m hm pL n0 n1
     clear hS
     obtain⟨A,c,rfl,hS⟩:=pL
     cases hB:C.blk with
     |none=>rw[hB] at hS;obtain⟨_,rfl,_⟩:=hS;omega
     |some B=>
      rw[hB] at hS
      obtain⟨hc,a,hA,ha,_⟩:=hS
      refine⟨B,rfl,?_⟩
      rw[CY hu n0 n1 (by rw[hz];exact ty.size_pos) hA]
      have:a=lo*C.sz:=by rcases ha with ha|ha<;>omega
      rw[this,hz,dM,Nat.add_mul];rfl
    split at h
    ·obtain⟨hb,rfl,rfl⟩:=lz h
     obtain⟨b0,b1,b2⟩:=xV hb
     obtain⟨B,hB,hr⟩:=key 0 C.len (by omega) hS b0 (by omega)
     rw[Nat.zero_add] at hr
     exact qL.pure ok hM hr ⟨C,B,hC,hB,by omega,rfl⟩
    ·obtain⟨hb,rfl,rfl⟩:=lz h
     obtain⟨b0,b1,b2⟩:=xV hb
     obtain⟨B,hB,hr⟩:=key _ _ hS.1 hS.2.1 b0 b1
     exact qL.pure ok hM hr ⟨C,B,hC,hB,by have:=hS.1;omega,rfl⟩
   ·rename_i ver xs aa
    obtain⟨hz,h⟩:=jV h
    have hz:=Nat.eq_of_beq_eq_true hz
    split at h
    ·obtain⟨hb,rfl,rfl⟩:=lz h
     obtain⟨b0,b1,b2⟩:=xV hb
     obtain⟨C,hC,hS⟩:=hx
     obtain⟨C',ax,hO⟩:=ok.obj _ _ aa
     rw[hC] at ax;cases ax
     have hlen:=hO.2.1
     obtain⟨A,c,rfl,hS⟩:=hS
     cases hB:C.blk with
     |none=>rw[hB] at hS;obtain⟨_,h0,_⟩:=hS;omega
     |some B=>
      rw[hB] at hS
      obtain⟨hc,a,hA,ha,_⟩:=hS
      have:a=0:=by rcases ha with ha|ha<;>omega
      have hr:=CY (P:=P) (w:=w) (c:=c) (k:=k) hu b0 (show n<(C.len:Int) by omega) (by omega) hA
      rw[this,hz,Nat.zero_add,Nat.mul_one] at hr
      exact qL.pure ok hM hr ⟨C,B,hC,hB,by omega,rfl⟩
    ·exact h.elim
   ·rename_i ver xs m aa
    obtain⟨hz,h⟩:=jV h
    have hz:=Nat.eq_of_beq_eq_true hz
    split at h
    ·obtain⟨hb,rfl,rfl⟩:=lz h
     obtain⟨b0,b1,b2⟩:=xV hb
     obtain⟨C,hC,hS⟩:=hx
     obtain⟨C',ax,hO⟩:=ok.obj _ _ aa
     rw[hC] at ax;cases ax
     have hlen:=hO.2.1
     obtain⟨A,c,rfl,hS⟩:=hS
     cases hB:C.blk with
     |none=>rw[hB] at hS;obtain⟨_,h0,_⟩:=hS;omega
     |some B=>
      rw[hB] at hS
      obtain⟨hc,a,hA,ha,_⟩:=hS
      have:a=0:=by rcases ha with ha|ha<;>omega
      have hr:=CY (P:=P) (w:=w) (c:=c) (k:=k) hu b0 (show n<(C.len:Int) by omega) (by omega) hA
      rw[this,hz,Nat.zero_add,Nat.mul_one] at hr
      exact qL.pure ok hM hr ⟨C,B,hC,hB,by omega,rfl⟩
    ·exact h.elim
   ·exact h.elim
  ·rename_i id j ver
   obtain⟨hz,h⟩:=jV h
   have hz:=Nat.eq_of_beq_eq_true hz
   split at h
   ·rename_i v' xs aa
    obtain⟨hv,h⟩:=jV h
    have hv:=Nat.eq_of_beq_eq_true hv
    subst hv
    obtain⟨hb,rfl,rfl⟩:=lz h
    obtain⟨b0,b1,b2⟩:=xV hb
    obtain⟨C,hC,h1,hle,hm⟩:=hx
    obtain⟨C',ax,hO⟩:=ok.obj _ _ aa
    rw[hC] at ax;cases ax
    obtain⟨rb,rl,k1,k2⟩:=hm hO.1
    have hj:j<xs.length:=by
     rw[←hO.2.2.2.1]
     rcases Nat.lt_or_ge j C.rows.length with h|h
     ·exact h
     ·rw[List.getElem?_eq_none h] at k1;cases k1
    obtain⟨B,mP,x',q0,qv,q1,q2,q3,q4⟩:=xQ hO hj
    rw[k1] at q1
    cases q1
    have e1:xs.getD j []=xs[j]:=by simp[List.getD,hj]
    rw[e1] at b1 b2
    cases rb with
    |none=>obtain⟨_,h0⟩:=k2;omega
    |some R=>
     obtain⟨a,c,rfl,hc,ha,_⟩:=k2
     have:a=0:=by rcases ha with ha|ha<;>omega
     subst this
     have hr:=CY (P:=P) (w:=w) (c:=c) (k:=k) (A:=some ⟨R,0,none⟩) hu b0 b1 (by omega) rfl
     rw[hz,Nat.zero_add,Nat.mul_one] at hr
     exact qL.pure ok hM hr ⟨C,hC,rfl,hle,fun _=>⟨R,_,k1,b2,rfl⟩⟩
   ·exact h.elim
  ·exact h.elim
 ·rename_i m e id off k n hu
  have lD:ri=.int k n:=hi
  subst lD
  obtain⟨hz,h⟩:=GX h
  have hz:=GY hz
  obtain⟨j,j1,j2,rfl,rfl,rfl⟩:=CX h
  obtain⟨C,B,hC,hB,rfl⟩:=hx
  obtain⟨y,hy⟩:=mN (P:=P) (t:=e) (by omega)
  refine qL.pure ok hM (rv:=.pointer (some ⟨B,off+j*P.cellsOf e,none⟩)) ?_ ⟨C,B,hC,hB,rfl⟩
  have:(j:Int)<m:=by omega
  have h':¬m≤j:=by omega
  simp[Instr.indexAt,asIntOf,run_underlying hu,il,this,h',gQ w hy,Addr.add_lit]
 ·rename_i m e id q off k n hu
  have lD:ri=.int k n:=hi
  subst lD
  obtain⟨hz,h⟩:=GX h
  have hz:=GY hz
  obtain⟨j,j1,j2,rfl,rfl,rfl⟩:=CX h
  obtain⟨C,B,hC,hB,hq,rfl⟩:=hx
  obtain⟨y,hy⟩:=mN (P:=P) (t:=e) (by omega)
  refine qL.pure ok hM (rv:=.pointer (some ⟨B,_+j*P.cellsOf e,none⟩)) ?_ ⟨C,B,hC,hB,hq,by rw[Nat.add_assoc]⟩
  have:(j:Int)<m:=by omega
  have h':¬m≤j:=by omega
  simp[Instr.indexAt,asIntOf,run_underlying hu,il,this,h',gQ w hy,Addr.add_lit]
 ·rename_i m e sh t x off k n hu
  have lD:ri=.int k n:=hi
  subst lD
  obtain⟨hz,h⟩:=GX h
  have hz:=GY hz
  obtain⟨j,j1,j2,rfl,rfl,rfl⟩:=CX h
  obtain⟨B,o,rfl,hB,hE⟩:=hx
  obtain⟨y,hy⟩:=mN (P:=P) (t:=e) (by omega)
  refine qL.pure ok hM (rv:=.pointer (some ⟨B,_+j*P.cellsOf e,none⟩)) ?_ ⟨B,o,by rw[Nat.add_assoc],hB,hE⟩
  have:(j:Int)<m:=by omega
  have h':¬m≤j:=by omega
  simp[Instr.indexAt,asIntOf,run_underlying hu,il,this,h',gQ w hy,Addr.add_lit]
 ·exact h.elim
theorem WU {M:zB}{cs:List zG}{us:Array Value}{off n:Nat}{vs:List zG}(h:zP (zW M) cs us.toList)(hc:kD cs off n=some vs):zP (zW M) vs (us.extract off (off+n)).toList:=by
 obtain⟨h1,rfl,h2⟩:=CQ hc
 have:=(h.drop off).take n
 rw[Array.toList_extract,List.extract_eq_take_drop]
 simpa using this
theorem WV {P:Program}{M:zB}{w:World}{t:TypeId}{cs:List zG}{us:Array Value}{off:Nat}{vs:List zG}{v:zD}(h:zP (zW M) cs us.toList)
  (hc:kD cs off (P.cellsOf t)=some vs) (hp:oe (gb P t) vs=some v):∃rv,(part t us off).run P w=.ok rv w∧zU M v rv:=by
 have bn:=WU h hc
 obtain⟨h1,h2,h3⟩:=CQ hc
 have hl:=h.length
 rcases MX hp with⟨dO,rfl⟩|⟨dO,c,rfl,rfl⟩
 ·obtain⟨⟨d,hd⟩,hr⟩:=xO (P:=P) w dO
  obtain⟨i,hi⟩:=Wz hd
  exact⟨.agg (us.extract off (off+P.cellsOf t)),by simp[part,hr,gQ w hi],_,rfl,bn⟩
 ·obtain⟨⟨d,hd⟩,hr⟩:=xO (P:=P) w dO
  simp only[List.length_singleton] at h3
  have aV:off<us.size:=by simp at hl;omega
  have GZ:off<cs.length:=by omega
  refine⟨us[off],by simp[part,hr,aV],?_⟩
  have e:cs[off]=c:=by
   have:=congrArg (·[0]?) h2
   simp only[List.getElem?_cons_zero] at this
   rw[←h3,List.getElem?_take,if_pos (by omega),List.getElem?_drop,Nat.add_zero,List.getElem?_eq_getElem GZ] at this
   exact(Option.some.inj this).symm
  have:=h.get off GZ (by simpa using aV)
  rw[e] at this
  show zW M c us[off]
  simpa using this
theorem vAp {P:Program}{M:zB}{w:World}(ok:Ok M)(hM:M.H=w.heap){s:TypeId}{x v:zD}{f:Nat}{u:zZ}{rx:Value}(hx:zU M x rx)
  (h:yI (MA P s x f) v u):qL P (Instr.field s rx f) M w v u:=by
 unfold MA at h
 split at h
 ·rename_i fs cs hs
  split at h
  ·rename_i fd hf
   split at h
   ·rename_i vs hc
    obtain⟨h',rfl⟩:=MU h
    obtain⟨us,rfl,lA⟩:=hx
    obtain⟨rv,hr,hv⟩:=WV (P:=P) (w:=w) lA hc h'
    exact qL.pure ok hM (by simp[Instr.field,run_underlying hs,hf,asAgg,hr]) hv
   ·exact h.elim
  ·exact h.elim
 ·exact h.elim
theorem yZm {P:Program}{M:zB}{w:World}(ok:Ok M)(hM:M.H=w.heap){t:TypeId}{x i v:zD}{u:zZ}{rx ri:Value}(hx:zU M x rx)(hi:zU M i ri)
  (h:yI (Mz P t x i) v u):qL P (Instr.index t rx ri) M w v u:=by
 unfold Mz at h
 split at h
 ·rename_i m e cs k n hu
  have lD:ri=.int k n:=hi
  subst lD
  obtain⟨hc,h⟩:=jV h
  simp only[Bool.and_eq_true] at hc
  obtain⟨⟨c1,c2⟩,c3⟩:=hc
  have c1:=Nat.eq_of_beq_eq_true c1
  have c3:=Nat.eq_of_beq_eq_true c3
  obtain⟨j,j1,j2,rfl,rfl,rfl⟩:=CX h
  obtain⟨us,rfl,lA⟩:=hx
  have dO:gb P e=some false:=by
   split at c2
   ·rename_i e1;exact e1
   ·cases c2
  have hj:j<cs.length:=by omega
  have ew:kD cs j (P.cellsOf e)=some [cs[j]]:=by
   unfold kD
   have:Nat.ble (j+P.cellsOf e) cs.length=true:=Nat.ble_eq_true_of_le (by omega)
   rw[this,c1]
   simp[List.take_one,List.head?_drop,hj]
  obtain⟨rv,hr,hv⟩:=WV (P:=P) (w:=w) lA ew (v:=.c cs[j]) (by rw[dO];rfl)
  obtain⟨y,hy⟩:=mN (P:=P) (t:=e) (by omega)
  have hjm:(j:Int)<m:=by omega
  refine qL.pure ok hM (rv:=rv) ?_ ?_
  ·have h':¬m≤j:=by omega
   simp[Instr.index,asIntOf,run_underlying hu,hjm,h',gQ w hy,c1,hr]
  ·have:cs.getD j .undef=cs[j]:=by simp[List.getD,hj]
   rw[this];exact hv
 ·exact h.elim
theorem WW (a b:Bool):rV a b=(a==b):=by cases a<;>cases b<;>rfl
theorem vHi {P:Program}{M:zB}{w:World}(ok:Ok M)(hM:M.H=w.heap){op:BinOp}{k:IntKind}{x y:Int}{xt:TypeId}{v:zD}{u:zZ}(hs:op≠.shl∧op≠.shr)
  (h:yI (Wn op k x y) v u):qL P (binOp op xt (.int k x) (.int k y)) M w v u:=by
 cases op with
 |shl=>exact absurd rfl hs.1
 |shr=>exact absurd rfl hs.2
 |quo=>
  obtain⟨h1,rfl,rfl⟩:=lz h
  simp only[Bool.not_eq_true',decide_eq_false_iff_not] at h1
  exact qL.pure ok hM (rv:=.int k (k.wrap (x.tdiv y))) (by simp[binOp,Op.intDiv,h1]) rfl
 |rem=>
  obtain⟨h1,rfl,rfl⟩:=lz h
  simp only[Bool.not_eq_true',decide_eq_false_iff_not] at h1
  exact qL.pure ok hM (rv:=.int k (x.tmod y)) (by simp[binOp,Op.intDiv,h1]) rfl
 |neq=>
  obtain⟨rfl,rfl⟩:=vP h
  exact qL.pure ok hM (rv:=.bool (!decide (x=y))) (by simp[binOp,Op.intCmp,bne,BEq.beq]) rfl
 |eql=>
  obtain⟨rfl,rfl⟩:=vP h
  exact qL.pure ok hM (rv:=.bool (decide (x=y))) (by simp[binOp,Op.intCmp,BEq.beq]) rfl
 |_=>
  obtain⟨rfl,rfl⟩:=vP h
  exact qL.pure ok hM (rv:=_) (by simp only[binOp,ne_eq,not_true_eq_false,if_false];rfl) rfl
theorem WX {P:Program}{M:zB}{w:World}(ok:Ok M)(hM:M.H=w.heap){op:BinOp}{k j:IntKind}{x y:Int}{xt:TypeId}{v:zD}{u:zZ}(hs:op=.shl∨op=.shr)
  (h:yI (Wo op k x y) v u):qL P (binOp op xt (.int k x) (.int j y)) M w v u:=by
 rcases hs with rfl|rfl
 ·obtain⟨h1,rfl,rfl⟩:=lz h
  simp only[Bool.not_eq_true',decide_eq_false_iff_not] at h1
  exact qL.pure ok hM (rv:=.int k (k.wrap (x*2^(min y.toNat k.bits)))) (by simp only[binOp,Op.shift,h1,if_false];rfl) rfl
 ·obtain⟨h1,rfl,rfl⟩:=lz h
  simp only[Bool.not_eq_true',decide_eq_false_iff_not] at h1
  exact qL.pure ok hM (rv:=.int k (x.fdiv (2^(min y.toNat k.bits)))) (by simp only[binOp,Op.shift,h1,if_false];rfl) rfl
def G0 (P:Program)(eqT:TypeId→Bool):Prop:=∀t,eqT t=true→∀(M:zB) (xs ys:List zG) (us vs:Array Value) (r:Bool) (w:World),Mu P t xs ys=some r→
 zP (zW M) xs us.toList→zP (zW M) ys vs.toList→P.eqGuardType P.depth t=false∧(Op.equal t (.agg us) (.agg vs)).run P w=.ok r w
theorem WY {P:Program}{t:TypeId}(h:Gq P t=true):P.underlying t=some .bool:=by
 unfold Gq at h
 split at h
 ·rename_i e;exact e
 ·cases h
theorem vDo {P:Program}{eqT:TypeId→Bool}(heq:G0 P eqT){M:zB}{w:World}(ok:Ok M)(hM:M.H=w.heap){op:BinOp}{xt:TypeId}{ox oy:Operand}{x y v:zD}{u:zZ}{rx ry:Value}
  (hx:zU M x rx) (hy:zU M y ry) (h:yI (Mw P eqT op xt ox oy x y) v u):qL P (do eqGuard op xt ox oy rx ry;binOp op xt rx ry) M w v u:=by
 have quiet:∀{k j:IntKind} {a b:Int},(eqGuard op xt ox oy (.int k a) (.int j b)).run P w=.ok () w:=by
  intro k j a b
  unfold eqGuard
  split<;>rfl
 have step:∀{a b:Value},(eqGuard op xt ox oy a b).run P w=.ok () w→qL P (binOp op xt a b) M w v u→qL P (do eqGuard op xt ox oy a b;binOp op xt a b) M w v u:=by
  rintro a b hg ⟨rv,w',M',h1,h2⟩
  exact⟨rv,w',M',by simp only[Sem.run_bind,hg,Result.andThen_ok];exact h1,h2⟩
 unfold Mw at h
 split at h
 ·have e1:rx=_:=hx
  have e2:ry=_:=hy
  subst e1;subst e2
  exact step quiet (WX ok hM (.inl rfl) h)
 ·have e1:rx=_:=hx
  have e2:ry=_:=hy
  subst e1;subst e2
  exact step quiet (WX ok hM (.inr rfl) h)
 ·rename_i k a j b n1 n2
  obtain⟨hk,h2⟩:=jV h
  have hk:=rU hk
  subst hk
  have e1:rx=_:=hx
  have e2:ry=_:=hy
  subst e1;subst e2
  exact step quiet (vHi ok hM ⟨fun e=>n1 e,fun e=>n2 e⟩ h2)
 ·rename_i a b
  have e1:rx=_:=hx
  have e2:ry=_:=hy
  subst e1;subst e2
  obtain⟨hb,h2⟩:=jV h
  obtain⟨rfl,rfl⟩:=vP h2
  have hr:=run_equalIn_bool' (P:=P) w 9999 xt a b (WY hb)
  refine qL.pure ok hM (rv:=.bool (rV a b)) ?_ rfl
  have lE:(Op.equal xt (.bool a) (.bool b)).run P w=.ok (a==b) w:=hr
  have hg:(eqGuard .eql xt ox oy (.bool a) (.bool b)).run P w=.ok () w:=by unfold eqGuard;rfl
  simp only[Sem.run_bind,hg,Result.andThen_ok,binOp,lE,Sem.run_pure,WW]
 ·rename_i a b
  have e1:rx=_:=hx
  have e2:ry=_:=hy
  subst e1;subst e2
  obtain⟨hb,h2⟩:=jV h
  obtain⟨rfl,rfl⟩:=vP h2
  have hr:=run_equalIn_bool' (P:=P) w 9999 xt a b (WY hb)
  refine qL.pure ok hM (rv:=.bool (!rV a b)) ?_ rfl
  have lE:(Op.equal xt (.bool a) (.bool b)).run P w=.ok (a==b) w:=hr
  have hg:(eqGuard .neq xt ox oy (.bool a) (.bool b)).run P w=.ok () w:=by unfold eqGuard;rfl
  simp only[Sem.run_bind,hg,Result.andThen_ok,binOp,lE,Sem.run_pure,WW]
 ·rename_i a b
  have e1:rx=_:=hx
  have e2:ry=_:=hy
  subst e1;subst e2
  obtain⟨rfl,rfl⟩:=vP h
  have hg:(eqGuard .eql xt ox oy (.string ⟨(kE a).toArray⟩) (.string ⟨(kE b).toArray⟩)).run P w=.ok () w:=by unfold eqGuard;rfl
  refine qL.pure ok hM (rv:=.bool (CG a b)) ?_ rfl
  simp only[Sem.run_bind,hg,Result.andThen_ok,binOp_string_eql,ByteArray.toList_eq,Sem.run_pure]
  rfl
 ·rename_i a b
  have e1:rx=_:=hx
  have e2:ry=_:=hy
  subst e1;subst e2
  obtain⟨rfl,rfl⟩:=vP h
  have hg:(eqGuard .neq xt ox oy (.string ⟨(kE a).toArray⟩) (.string ⟨(kE b).toArray⟩)).run P w=.ok () w:=by unfold eqGuard;rfl
  refine qL.pure ok hM (rv:=.bool (!CG a b)) ?_ rfl
  simp only[Sem.run_bind,hg,Result.andThen_ok,binOp_string_neq,ByteArray.toList_eq,Sem.run_pure]
  rfl
 ·obtain⟨ht,h⟩:=jV h
  split at h
  ·rename_i r hr
   obtain⟨rfl,rfl⟩:=vP h
   obtain⟨us,rfl,lA⟩:=hx
   obtain⟨vs,rfl,dz⟩:=hy
   obtain⟨g1,g2⟩:=heq xt ht M _ _ us vs r w hr lA dz
   exact step (run_eqGuard_agg w _ xt ox oy us vs g1) (qL.pure ok hM (rv:=.bool r) (by simp only[binOp,Sem.run_bind,g2,Result.andThen_ok];rfl) rfl)
  ·exact h.elim
 ·obtain⟨ht,h⟩:=jV h
  split at h
  ·rename_i r hr
   obtain⟨rfl,rfl⟩:=vP h
   obtain⟨us,rfl,lA⟩:=hx
   obtain⟨vs,rfl,dz⟩:=hy
   obtain⟨g1,g2⟩:=heq xt ht M _ _ us vs r w hr lA dz
   exact step (run_eqGuard_agg w _ xt ox oy us vs g1) (qL.pure ok hM (rv:=.bool (!r)) (by simp only[binOp,Sem.run_bind,g2,Result.andThen_ok];rfl) rfl)
  ·exact h.elim
 ·exact h.elim
theorem vLy {P:Program}{M:zB}{w:World}(ok:Ok M)(hM:M.H=w.heap){op:UnOp}{x v:zD}{u:zZ}{rx:Value}(hx:zU M x rx)(h:yI (Mx op x) v u):
  qL P (Op.unary op rx) M w v u:=by
 unfold Mx at h
 split at h
 ·obtain⟨rfl,rfl⟩:=vP h
  have e1:rx=_:=hx
  subst e1
  exact qL.pure ok hM rfl rfl
 ·obtain⟨rfl,rfl⟩:=vP h
  have e1:rx=_:=hx
  subst e1
  exact qL.pure ok hM rfl rfl
 ·exact h.elim
end Go.Ab
