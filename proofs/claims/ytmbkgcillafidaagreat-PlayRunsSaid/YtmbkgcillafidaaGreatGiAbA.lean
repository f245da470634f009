/- part 0 -/
import Derived.Calls
import Derived.Orders
import Derived.KernelRfl
import Derived.Laws.Append
import Derived.Laws.AppendOwn
import Derived.Laws.MakeOwn
import Derived.Laws.IdiomCopy
import Derived.Laws.StructEq
import Derived.Laws.CopyRow
import Derived.ChangeKeysEq
set_option linter.unusedVariables false
namespace Go.Ab
inductive Ty where
 |int (k:IntKind)|bool|sl (t:Ty)|pair (a b:Ty)
abbrev Ty.den:Ty→Type
 |.int _=>Int|.bool=>Bool|.sl t=>List t.den|.pair a b=>a.den×b.den
def Ty.size:Ty→Nat
 |.int _=>1|.bool=>1|.sl _=>1|.pair a b=>a.size+b.size
def Ty.flat:Ty→Bool
 |.int _|.bool=>true|.sl _=>false|.pair a b=>a.flat&&b.flat
def Ty.dflt:(t:Ty)→t.den
 |.int _=>(0:Int)|.bool=>false|.sl t=>([]:List t.den)|.pair a b=>(a.dflt,b.dflt)
def gx:IntKind→IntKind→Bool
 |.i8,.i8|.i16,.i16|.i32,.i32|.i64,.i64|.u8,.u8|.u16,.u16|.u32,.u32|.u64,.u64=>true
 |_,_=>false
theorem tL {a b}(h:gx a b=true):a=b:=by cases a<;>cases b<;>first|rfl|cases h
def rY:Ty→Ty→Bool
 |.int j,.int k=>gx j k
 |.bool,.bool=>true
 |.sl a,.sl b=>rY a b
 |.pair a b,.pair c d=>rY a c&&rY b d
 |_,_=>false
theorem Jr:∀{a b},rY a b=true→a=b
 |.int j,.int k,h=>congrArg Ty.int (tL h)
 |.bool,.bool,_=>rfl
 |.sl a,.sl b,h=>congrArg Ty.sl (Jr (a:=a) (b:=b) h)
 |.pair a b,.pair c d,h=>by
  simp[rY] at h;rw[Jr h.1,Jr h.2]
def iu (a b:Ty)(xs:List a.den):Option (List b.den):=
 if h:rY a b=true then some (Jr h▸xs) else none
inductive qC where
 |undef
 |int (k:IntKind) (n:Int)
 |bool (b:Bool)
 |fsl (sh:Bool) (t:Ty) (xs:List t.den)
 |nfl (sh:Bool) (t:Ty) (xs:List t.den)
 |nsl
 |osl (id:Nat) (r:Option (Nat×Nat))
 |bsl (id off len:Nat)
 |ptr (id off:Nat)
 |eptr (id i off:Nat)
 |fptr (sh:Bool) (t:Ty) (x:t.den) (off:Nat)
 |mrow (id i ver:Nat)
 |mptr (id i:Nat)
 |meptr (id i j ver:Nat)
 |nilp|nilf|nilm
 |fn (f:Nat) (cap:List Nat)
 |map (id:Nat)
 |str (xs:List Int)
inductive zZ where
 |undef
 |skp
 |c (v:qC)
 |agg (vs:List qC)
 |tup (xs:List (Bool×List qC))
inductive Obj where
 |box (own:Bool) (cells:List qC)
 |robox (cells:List qC)
 |arr (own:Bool) (t:Ty) (xs:List t.den)
 |mat (ver:Nat) (xs:List (List Int))
 |pmat (ver:Nat) (xs:List (List Int)) (n:Nat)
 |imap (df:List (Int×Bool))
 |gone
abbrev Hp:=Nat→Option Obj
abbrev vL:=List (Nat×Obj)
def yP (h:Hp)(id:Nat)(o:Obj):Hp:=fun n=>bif Nat.beq n id then some o else h n
def qL (h:Hp):vL→Hp
 |[]=>h
 |(id,o)::u=>qL (yP h id o) u
structure St where
 t:Nat→zZ
 h:Hp
def jY (t:Nat→zZ)(d:Nat)(v:zZ):Nat→zZ:=fun n=>bif Nat.beq n d then v else t n
def j8 (t:Nat→zZ)(d:Option Nat)(v:zZ):Nat→zZ:=match d with
 |some d=>jY t d v
 |none=>t
inductive yX where
 |alts (l:List (Bool×zZ×vL))
 |call (X:Type) (x:Option X) (f:X→zZ×vL)
 |call2 (X Y:Type) (x:Option (X⊕Y)) (f:X→zZ×vL) (g:Y→zZ×vL)
def yX.stuck:yX:=.alts []
def yX.one (v:zZ):yX:=.alts [(true,v,[])]
def yX.when (c:Bool)(v:zZ):yX:=.alts [(c,v,[])]
def Uq {R:Type}(K:zZ→vL→Option R):List (Bool×zZ×vL)→Option R
 |[]=>none
 |(c,v,u)::l=>bif c then K v u else Uq K l
def yX.elim {R}(s:yX)(K:zZ→vL→Option R):Option R:=match s with
 |.alts l=>Uq K l
 |.call _ x f=>x.bind fun r=>K (f r).1 (f r).2
 |.call2 _ _ x f g=>x.bind fun r=>match r with
  |.inl a=>K (f a).1 (f a).2
  |.inr b=>K (g b).1 (g b).2
def A3:Value→qC
 |.int k n=>.int k n
 |.bool b=>.bool b
 |.slice none 0 0=>.nsl
 |.pointer none=>.nilp
 |.nilFunc=>.nilf
 |.map none=>.nilm
 |_=>.undef
def A4:Value→Bool
 |.agg _|.tuple _=>false
 |_=>true
def Ur:Value→zZ
 |.agg cs=>bif cs.toList.all A4 then .agg (cs.toList.map A3) else .undef
 |.tuple _=>.undef
 |v=>.c (A3 v)
def St.ev (st:St):Operand→zZ
 |.tmp t=>st.t t
 |.const v=>Ur v
 |.global _=>.undef
 |.func f=>.c (.fn f [])
def cellsOf (sh:Bool):(t:Ty)→t.den→List qC
 |.int k,n=>[.int k n]
 |.bool,b=>[.bool b]
 |.sl t,xs=>[.fsl sh t xs]
 |.pair a b,p=>cellsOf sh a p.1++cellsOf sh b p.2
def Us (k:IntKind):Nat→qC→Option Int
 |0,.int j n=>bif gx j k then some n else none
 |_,_=>none
def Ut:Nat→qC→Option Bool
 |0,.bool b=>some b
 |_,_=>none
def Uu (t:Ty):Nat→qC→Option (List t.den)
 |0,.fsl true s xs=>iu s t xs
 |0,.nsl=>some []
 |_,_=>none
def tM:(t:Ty)→t.den→Nat→qC→Option t.den
 |.int k,_,off,v=>Us k off v
 |.bool,_,off,v=>Ut off v
 |.sl t,_,off,v=>Uu t off v
 |.pair a b,p,off,v=>bif Nat.blt off a.size then(match tM a p.1 off v with|some x=>some (x,p.2)|none=>none)
   else(match tM b p.2 (off-a.size) v with|some y=>some (p.1,y)|none=>none)
def tN (t:Ty):t.den→Nat→List qC→Option t.den
 |x,_,[]=>some x
 |x,off,v::vs=>match tM t x off v with
  |some y=>tN t y (off+1) vs
  |none=>none
def Js (t:Ty)(vs:List qC):Option t.den:=bif Nat.beq vs.length t.size then tN t t.dflt 0 vs else none
def qS {α:Type}(xs:List α)(lo n:Nat):List α:=(xs.drop lo).take n
def j9 {α}(xs:List α):Option (Nat×Nat)→List α
 |none=>xs
 |some (lo,n)=>qS xs lo n
def fR:List (Option Ty)→Option Ty
 |[]=>none
 |[t]=>t
 |a::l=>match a,fR l with
  |some x,some y=>some (.pair x y)
  |_,_=>none
def Oy (P:Program):Nat→TypeId→Option Ty
 |0,_=>none
 |d+1,t=>match P.underlying t with
  |some (.int k)=>some (.int k)
  |some .bool=>some .bool
  |some (.slice e)=>(Oy P d e).map .sl
  |some (.struct fs)=>fR (fs.toList.map fun f=>Oy P d f.type)
  |some (.array n e)=>fR (List.replicate n (Oy P d e))
  |_=>none
def iw:Ty→List Value
 |.int k=>[.int k 0]
 |.bool=>[.bool false]
 |.sl _=>[.slice none 0 0]
 |.pair a b=>iw a++iw b
def Uv:Value→Value→Bool
 |.int j a,.int k b=>gx j k&&decide (a=b)
 |.bool a,.bool b=>bif a then b else !b
 |.slice none 0 0,.slice none 0 0=>true
 |_,_=>false
def Jt:List Value→List Value→Bool
 |[],[]=>true
 |a::l,b::m=>Uv a b&&Jt l m
 |_,_=>false
def kD (P:Program)(e:TypeId):Option Ty:=match Oy P 8 e,P.info? e with
 |some t,some i=>match i.zero with
  |some z=>bif Nat.beq i.size t.size&&Jt z.cells.toList (iw t) then some t else none
  |none=>none
 |_,_=>none
def eL (P:Program)(t:TypeId):Option Bool:=match P.underlying t with
 |some (.struct _)|some (.array _ _)=>some true
 |some _=>some false
 |none=>none
def zeroCells (P:Program)(t:TypeId):Option (List qC):=match P.info? t with
 |some i=>match i.zero with
  |some v=>bif Nat.beq v.cells.size i.size&&v.cells.toList.all A4 then some (v.cells.toList.map A3) else none
  |none=>none
 |none=>none
def rZ (agg:Option Bool)(vs:List qC):Option zZ:=match agg with
 |some true=>some (.agg vs)
 |some false=>match vs with
  |[v]=>some (.c v)
  |_=>none
 |none=>none
def yX.ofO:Option zZ→yX
 |some v=>.one v
 |none=>.stuck
def mU (cells:List qC)(off n:Nat):Option (List qC):=
 bif Nat.ble (off+n) cells.length then some ((cells.drop off).take n) else none
def A5 (cells:List qC)(off:Nat):List qC→Option (List qC)
 |[]=>some cells
 |v::vs=>bif Nat.blt off cells.length then A5 (cells.set off v) (off+1) vs else none
def oQ:zZ→Option (List qC)
 |.c v=>some [v]
 |.agg vs=>some vs
 |_=>none
def tO (f:(n:Nat)→BitVec n→BitVec n→BitVec n)(k:IntKind)(x y:Int):Int:=
 k.wrap (f k.bits (BitVec.ofInt k.bits x) (BitVec.ofInt k.bits y)).toNat
def yKz (op:BinOp)(k:IntKind)(x y:Int):yX:=match op with
 |.add=>.one (.c (.int k (k.wrap (x+y))))
 |.sub=>.one (.c (.int k (k.wrap (x-y))))
 |.mul=>.one (.c (.int k (k.wrap (x*y))))
 |.quo=>.when (!decide (y=0)) (.c (.int k (k.wrap (x.tdiv y))))
 |.rem=>.when (!decide (y=0)) (.c (.int k (x.tmod y)))
 |.and=>.one (.c (.int k (tO (fun _ a b=>a&&&b) k x y)))
 |.or=>.one (.c (.int k (tO (fun _ a b=>a|||b) k x y)))
 |.xor=>.one (.c (.int k (tO (fun _ a b=>a^^^b) k x y)))
 |.andNot=>.one (.c (.int k (tO (fun _ a b=>a&&&~~~b) k x y)))
 |.eql=>.one (.c (.bool (decide (x=y))))
 |.neq=>.one (.c (.bool (!decide (x=y))))
 |.lss=>.one (.c (.bool (decide (x<y))))
 |.leq=>.one (.c (.bool (decide (x≤y))))
 |.gtr=>.one (.c (.bool (decide (x>y))))
 |.geq=>.one (.c (.bool (decide (x≥y))))
 |_=>.stuck
def yNo (op:BinOp)(k:IntKind)(x y:Int):yX:=match op with
 |.shl=>.when (!decide (y<0)) (.c (.int k (k.wrap (x*2^(min y.toNat k.bits)))))
 |.shr=>.when (!decide (y<0)) (.c (.int k (x.fdiv (2^(min y.toNat k.bits)))))
 |_=>.stuck
def iR (a b:Bool):Bool:=bif a then b else !b
def gy:List qC→List qC→Option Bool
 |[],[]=>some true
 |[.int j a],[.int k b]=>bif gx j k then some (decide (a=b)) else none
 |.int j a::l,.int k b::m=>bif gx j k then(match gy l m with|some r=>some (decide (a=b)&&r)|none=>none) else none
 |[.bool a],[.bool b]=>some (iR a b)
 |.bool a::l,.bool b::m=>match gy l m with|some r=>some (iR a b&&r)|none=>none
 |_,_=>none
def Oz (P:Program)(rec:TypeId→Option (List (Option IntKind))):Nat→List Field→Option (List (Option IntKind))
 |_,[]=>some []
 | i, f :: l => bif Nat.beq f.offset i && !(f.name == "_") then (match rec f.type,Oz P rec (i+P.cellsOf f.type) l with
  |some a,some r=>bif Nat.beq a.length (P.cellsOf f.type)&&Nat.blt 0 a.length then some (a++r) else none
  |_,_=>none) else none
def A6 {α:Type}:Nat→List α→List α
 |0,_=>[]
 |n+1,l=>l++A6 n l
def DF (P:Program):Nat→TypeId→Option (List (Option IntKind))
 |0,_=>none
 |d+1,t=>match P.underlying t with
  |some (.int k)=>some [some k]
  |some .bool=>some [none]
  |some (.struct fs)=>Oz P (DF P d) 0 fs.toList
  |some (.array n e)=>match DF P d e with
   |some a=>bif Nat.beq a.length (P.cellsOf e)&&Nat.blt 0 a.length then some (A6 n a) else none
   |none=>none
  |_=>none
def yN7 (P:Program)(t:TypeId):Option (List (Option IntKind)):=match P.underlying t with
 |some (.struct _)=>DF P 8 t
 |_=>none
def gQ:List (Option IntKind)→List qC→Bool
 |[],[]=>true
 |some k::l,.int j _::cs=>gx j k&&gQ l cs
 |none::l,.bool _::cs=>gQ l cs
 |_,_=>false
def OA (P:Program)(t:TypeId)(a b:List qC):Option Bool:=match yN7 P t with
 |some ks=>bif gQ ks a&&gQ ks b then gy a b else none
 |none=>none
def Uw (d:TypeDesc)(y:Operand)(x:qC):Option Bool:=match d,y,x with
 |.slice _,.const (.slice none 0 0),.nsl=>some true
 |.slice _,.const (.slice none 0 0),.nfl _ _ _=>some false
 |.pointer _,.const (.pointer none),.nilp=>some true
 |.pointer _,.const (.pointer none),.ptr _ _|.pointer _,.const (.pointer none),.eptr _ _ _|.pointer _,.const (.pointer none),.fptr _ _ _ _=>some false
 |.func _ _ _,.const .nilFunc,.nilf=>some true
 |.func _ _ _,.const .nilFunc,.fn _ _=>some false
 |.map _ _,.const (.map none),.nilm=>some true
 |.map _ _,.const (.map none),.map _=>some false
 |_,_,_=>none
def sb:BinOp→Bool→Bool
 |.eql,b=>b
 |_,b=> !b
def Ux:BinOp→Bool
 |.eql|.neq=>true
 |_=>false
def Uy:Operand→Bool
 |.const (.slice none 0 0)|.const (.pointer none)|.const .nilFunc|.const (.map none)=>true
 |_=>false
def nM (xs:List Int):List UInt8:=xs.map fun n=>UInt8.ofNat n.toNat
def oR (xs ys:List Int):Bool:=nM xs==nM ys
def OB (P:Program)(t:TypeId):Bool:=match P.underlying t with
 |some .bool=>true
 |_=>false
def Uz (P:Program)(eqT:TypeId→Bool)(op:BinOp)(iy:TypeId)(ox oy:Operand)(x y:zZ):yX:=match op,x,y with
 |.shl,.c (.int k a),.c (.int _ b)|.shr,.c (.int k a),.c (.int _ b)=>yNo op k a b
 |_,.c (.int k a),.c (.int j b)=>bif gx k j then yKz op k a b else .stuck
 |.eql,.c (.bool a),.c (.bool b)=>bif OB P iy then .one (.c (.bool (iR a b))) else .stuck
 |.neq,.c (.bool a),.c (.bool b)=>bif OB P iy then .one (.c (.bool (!iR a b))) else .stuck
 |.eql,.c (.str a),.c (.str b)=>.one (.c (.bool (oR a b)))
 |.neq,.c (.str a),.c (.str b)=>.one (.c (.bool (!oR a b)))
 |.eql,.agg a,.agg b=>bif eqT iy then(match OA P iy a b with|some r=>.one (.c (.bool r))|none=>.stuck) else .stuck
 |.neq,.agg a,.agg b=>bif eqT iy then(match OA P iy a b with|some r=>.one (.c (.bool (!r)))|none=>.stuck) else .stuck
 |_,_,_=>.stuck
def UA (op:UnOp)(x:zZ):yX:=match op,x with
 |.not,.c (.bool b)=>.one (.c (.bool (!b)))
 |.neg,.c (.int k n)=>.one (.c (.int k (k.wrap (0-n))))
 |_,_=>.stuck
def kE (h:Hp):qC→Option ((t:Ty)×List t.den)
 |.fsl _ t xs=>some ⟨t,xs⟩
 |.osl id r=>match h id with
  |some (.arr _ t xs)=>some ⟨t,j9 xs r⟩
  |some (.mat _ xs)=>match r with
   |none=>some ⟨.sl (.int .i64),xs⟩
   |some _=>none
  |_=>none
 |.mrow id i ver=>match h id with
  |some (.mat v xs)=>bif Nat.beq v ver then some ⟨.int .i64,xs.getD i []⟩ else none
  |_=>none
 |_=>none
def DG (h:Hp):qC→Option (List Int)
 |.nsl=>some []
 |c=>match kE h c with
  |some ⟨.int .u8,xs⟩=>some xs
  |_=>none
def DH (h:Hp)(v:qC):Option Nat:=match v with
 |.nsl=>some 0
 |.bsl _ _ n=>some n
 |v=>match kE h v with
  |some ⟨_,xs⟩=>some xs.length
  |none=>none
def DI (h:Hp):qC→Option Nat
 |.fsl _ _ xs=>some xs.length
 |.osl id none=>match h id with
  |some (.arr _ _ xs)=>some xs.length
  |_=>none
 |_=>none
def oS (h:Hp):qC→Option (qC×vL)
 |.osl id r=>match h id with
  |some (.arr _ t xs)=>some (.fsl true t (j9 xs r),[(id,.arr false t xs)])
  |some (.mat _ xs)=>match r with
   |none=>some (.fsl true (.sl (.int .i64)) xs,[(id,.arr false (.sl (.int .i64)) xs)])
   |some _=>none
  |_=>none
 |.mrow _ _ _=>none
 |v=>some (v,[])
def nN (h:Hp):List qC→Option (List qC×vL)
 |[]=>some ([],[])
 |v::vs=>match oS h v,nN h vs with
  |some (v,u),some (vs,us)=>some (v::vs,u++us)
  |_,_=>none
def zB (i:Int)(n:Nat):Bool:=decide (0≤i)&&decide (i<(n:Int))
def DJ (i:Int)(mk:Nat→qC):Nat→Nat→List (Bool×zZ×vL)
 |_,0=>[]
 |j,n+1=>(decide (i=(j:Int)),.c (mk j),[])::DJ i mk (j+1) n
def Ju (P:Program)(t:TypeId)(cells:List qC)(off:Nat):yX:=.ofO ((mU cells off (P.cellsOf t)).bind (rZ (eL P t)))
def DK (P:Program)(h:Hp)(t:TypeId)(a:zZ):yX:=
 match a with
 |.c (.ptr id off)=>match h id with
  |some (.box _ cells)=>Ju P t cells off
  |some (.robox cells)=>Ju P t cells off
  |_=>.stuck
 |.c (.fptr sh ty x off)=>Ju P t (cellsOf sh ty x) off
 |.c (.eptr id i off)=>match h id with
  |some (.arr _ ty xs)=>Ju P t (cellsOf true ty (xs.getD i ty.dflt)) off
  |_=>.stuck
 |.c (.mptr id i)=>match h id with
  |some (.mat ver _)=>match eL P t with|some false=>.one (.c (.mrow id i ver))|_=>.stuck
  |_=>.stuck
 |.c (.meptr id i j ver)=>match h id with
  |some (.mat v xs)=>bif Nat.beq v ver then(match eL P t with|some false=>.one (.c (.int .i64 ((xs.getD i []).getD j 0)))|_=>.stuck) else .stuck
  |_=>.stuck
 |_=>.stuck
def DL (P:Program)(h:Hp)(t:TypeId)(a v:zZ):yX:=
 match oQ v with
 |none=>.stuck
 | some vs => bif Nat.beq vs.length (P.cellsOf t) && Nat.blt 0 vs.length then (match a with
  |.c (.ptr id off)=>match h id with
   |some (.box true cells)=>match A5 cells off vs with
    |some cells=>.alts [(true,.undef,[(id,.box true cells)])]
    |none=>.stuck
   |_=>.stuck
  |.c (.eptr id i off)=>match h id,nN h vs with
   |some (.arr true ty xs),some (vs,u)=>match tN ty (xs.getD i ty.dflt) off vs with
    |some x=>bif u.any (fun p=>Nat.beq p.1 id) then .stuck else .alts [(true,.undef,u++[(id,.arr true ty (xs.set i x))])]
    |none=>.stuck
   |_,_=>.stuck
  |.c (.mptr id i)=>match h id,v with
   |some (.mat ver xs),.c (.osl jd none)=>match h jd with
    |some (.arr true (.int .i64) ys)=>.alts [(true,.undef,[(jd,.gone),(id,.mat (ver+1) (xs.set i ys))])]
    |_=>.stuck
   |some (.pmat ver xs n),.c (.osl jd none)=>match h jd with
    |some (.arr true (.int .i64) ys)=>.alts [(Nat.beq i xs.length,.undef,[(jd,.gone),(id,.pmat (ver+1) (xs++[ys]) n)])]
    |_=>.stuck
   |_,_=>.stuck
  |.c (.meptr id i j ver)=>match h id,v with
   |some (.mat v xs),.c (.int .i64 n)=>bif Nat.beq v ver then .alts [(true,.undef,[(id,.mat v (xs.set i ((xs.getD i []).set j n)))])] else .stuck
   |_,_=>.stuck
  |_=>.stuck) else .stuck
def UB (P:Program)(s:TypeId)(a:zZ)(f:Nat):yX:=match P.underlying s with
 |some (.struct fs)=>match fs[f]? with
  | some fd => bif Nat.beq (P.cellsOf fd.type) 0 then .stuck else (match a with
   |.c (.ptr id off)=>.one (.c (.ptr id (off+fd.offset)))
   |.c (.eptr id i off)=>.one (.c (.eptr id i (off+fd.offset)))
   |.c (.fptr sh t x off)=>.one (.c (.fptr sh t x (off+fd.offset)))
   |_=>.stuck)
  |none=>.stuck
 |_=>.stuck
def DM (P:Program)(h:Hp)(t:TypeId)(x i:zZ):yX:=match P.underlying t,x,i with
 |some (.slice e),.c v,.c (.int _ i)=>match v with
  |.fsl sh ty xs=>bif Nat.beq (P.cellsOf e) ty.size then .when (zB i xs.length) (.c (.fptr sh ty (xs.getD i.toNat ty.dflt) 0)) else .stuck
  |.osl id r=>match h id with
   | some (.arr _ ty xs) => bif Nat.beq (P.cellsOf e) ty.size then (match r with
    |none=>.when (zB i xs.length) (.c (.eptr id i.toNat 0))
    |some (lo,n)=>.when (zB i n) (.c (.eptr id (lo+i.toNat) 0))) else .stuck
   | some (.mat _ xs) => bif Nat.beq (P.cellsOf e) 1 then (match r with
    |none=>.when (zB i xs.length) (.c (.mptr id i.toNat))
    |some _=>.stuck) else .stuck
   | some (.pmat _ _ n) => bif Nat.beq (P.cellsOf e) 1 then (match r with
    |none=>.when (zB i n) (.c (.mptr id i.toNat))
    |some _=>.stuck) else .stuck
   |_=>.stuck
  | .mrow id j ver => bif Nat.beq (P.cellsOf e) 1 then (match h id with
   |some (.mat v xs)=>bif Nat.beq v ver then .when (zB i (xs.getD j []).length) (.c (.meptr id j i.toNat ver)) else .stuck
   |_=>.stuck) else .stuck
  |_=>.stuck
 |some (.array n e),.c (.ptr id off),.c (.int _ i)=>bif Nat.beq (P.cellsOf e) 0 then .stuck else .alts (DJ i (fun j=>.ptr id (off+j*P.cellsOf e)) 0 n)
 |some (.array n e),.c (.eptr id q off),.c (.int _ i)=>bif Nat.beq (P.cellsOf e) 0 then .stuck else .alts (DJ i (fun j=>.eptr id q (off+j*P.cellsOf e)) 0 n)
 |some (.array n e),.c (.fptr sh t x off),.c (.int _ i)=>bif Nat.beq (P.cellsOf e) 0 then .stuck else .alts (DJ i (fun j=>.fptr sh t x (off+j*P.cellsOf e)) 0 n)
 |_,_,_=>.stuck
def UC (P:Program)(t:TypeId)(x i:zZ):yX:=match P.underlying t,x,i with
 |some (.array n e),.agg cs,.c (.int _ i)=>bif Nat.beq (P.cellsOf e) 1&&(match eL P e with|some false=>true|_=>false)&&Nat.beq cs.length n
   then .alts (DJ i (fun j=>cs.getD j .undef) 0 n) else .stuck
 |_,_,_=>.stuck
def Jv (s:ByteArray):List Int:=s.data.toList.map fun b=>(b.toNat:Int)
def UD (P:Program)(t:TypeId)(s:ByteArray)(i:zZ):yX:=match P.underlying t,i with
 |some .string,.c (.int _ n)=>.when (zB n (Jv s).length) (.c (.int .u8 ((Jv s).getD n.toNat 0)))
 |_,_=>.stuck
def UE (P:Program)(s:TypeId)(x:zZ)(f:Nat):yX:=match P.underlying s,x with
 |some (.struct fs),.agg cs=>match fs[f]? with
  |some fd=>match mU cs fd.offset (P.cellsOf fd.type) with
   |some vs=>.ofO (rZ (eL P fd.type) vs)
   |none=>.stuck
  |none=>.stuck
 |_,_=>.stuck
def Jw (place:Nat→Option (Nat×Nat))(cells:List qC):List (Nat×zZ)→Option (List qC)
 |[]=>some cells
 |(i,v)::rest=>match place i,oQ v with
  | some (off, size), some vs => bif Nat.beq vs.length size && Nat.ble (off + size) cells.length then (match A5 cells off vs with
   |some cells=>Jw place cells rest
   |none=>none) else none
  |_,_=>none
def UF (P:Program)(t:TypeId)(parts:List (Nat×zZ)):yX:=match zeroCells P t with
 |none=>.stuck
 |some zero=>match P.underlying t with
  | some (.struct fs) => bif fs.toList.all (fun f => (P.info? f.type).isSome) then (match Jw (fun i=>(fs[i]?).map fun f=>(f.offset,P.cellsOf f.type)) zero parts with
   |some cells=>.one (.agg cells)
   |none=>.stuck) else .stuck
  | some (.array _ e) => bif (P.info? e).isSome then (match Jw (fun i=>some (i*P.cellsOf e,P.cellsOf e)) zero parts with
   |some cells=>.one (.agg cells)
   |none=>.stuck) else .stuck
  |_=>.stuck
def A7 (h:Hp):zZ→Option (List Int×vL)
 |.c (.osl jd none)=>match h jd with
  |some (.arr true (.int .i64) ys)=>some (ys,[(jd,.gone)])
  |_=>none
 |.c .nsl=>some ([],[])
 |_=>none
def A8 (h:Hp)(rows:List (List Int)):List (Nat×zZ)→Option (List (List Int)×vL)
 |[]=>some (rows,[])
 |(i,v)::rest=>match A7 h v with
  |some (r,u)=>match A8 h (rows.set i r) rest with
   |some (rows,us)=>some (rows,u++us)
   |none=>none
  |none=>none
def sd (h:Hp)(t:Ty)(xs:List t.den):List (Nat×zZ)→Option (List t.den×vL)
 |[]=>some (xs,[])
 |(i,v)::rest=>match oQ v with
  |some vs=>match nN h vs with
   |some (vs,u)=>match Js t vs with
    |some x=>match sd h t (xs.set i x) rest with
     |some (xs,us)=>some (xs,u++us)
     |none=>none
    |none=>none
   |none=>none
  |none=>none
def tP:List Nat→Bool
 |[]=>true
 |a::l=> !(l.any (Nat.beq a))&&tP l
def DN (P:Program)(mat:Bool)(nm:Nat)(h:Hp)(t:TypeId)(n:Nat)(parts:List (Nat×zZ)):yX:=
 match P.underlying t,h nm with
 |some (.slice e),none=>bif Nat.ble (n*P.cellsOf e) 16777216 then
   (bif mat then (match kD P e,A8 h (List.replicate n []) parts with
    |some (.sl (.int .i64)),some (rows,u)=>bif tP (u.map (·.1))&&parts.all (fun p=>Nat.blt p.1 n) then .alts [(true,.c (.osl nm none),u++[(nm,.mat 0 rows)])] else .stuck
    |_,_=>.stuck)
   else (match kD P e with
    |some ty=>match sd h ty (List.replicate n ty.dflt) parts with
     |some (xs,u)=>bif parts.all (fun p=>Nat.blt p.1 n) then .alts [(true,.c (.osl nm none),u++[(nm,.arr true ty xs)])] else .stuck
     |none=>.stuck
    |none=>.stuck)) else .stuck
 |_,_=>.stuck
def DO (P:Program)(mat:Bool)(nm:Nat)(h:Hp)(t:TypeId)(l c:zZ):yX:=
 match P.underlying t,h nm,l,c with
 |some (.slice e),none,.c (.int .i64 l),.c (.int .i64 c)=>
   let ok:=decide (0≤l)&&decide (l≤c)&&decide (c*(P.bytesOf e:Int)≤140737488355328)&&decide (c≤140737488355328)
   bif mat then (match kD P e with
    |some (.sl (.int .i64))=>.alts [(ok,.c (.osl nm none),[(nm,.mat 0 (List.replicate l.toNat []))])]
    |_=>.stuck)
   else (match kD P e with
    |some ty=>.alts [(ok,.c (.osl nm none),[(nm,.arr true ty (List.replicate l.toNat ty.dflt))])]
    |none=>.stuck)
 |_,_,_,_=>.stuck
def Jx (P:Program)(t:TypeId):Bool:=match P.underlying t with
 | some (.map k e) => (match P.underlying k,(P.info? e).bind (·.zero) with
  |some (.int .i64),some (.bool false)=>true
  |_,_=>false)
 |_=>false
def DP (P:Program)(nm:Nat)(h:Hp)(t:TypeId):yX:=
 match h nm with
 |none=>bif Jx P t then .alts [(true,.c (.map nm),[(nm,.imap [])])] else .stuck
 |some _=>.stuck
def DQ (P:Program)(h:Hp)(t:TypeId)(x i:zZ):yX:=
 match x,i with
 | .c (.map id), .c (.int .i64 n) => (match h id with
  |some (.imap df)=>bif Jx P t then .one (.c (.bool ((df.lookup n).getD false))) else .stuck
  |_=>.stuck)
 |_,_=>.stuck
def DR (P:Program)(h:Hp)(t:TypeId)(x i v:zZ):yX:=
 match x,i,v with
 | .c (.map id), .c (.int .i64 n), .c (.bool b) => (match h id with
  |some (.imap df)=>bif Jx P t then .alts [(true,.undef,[(id,.imap ((n,b)::df))])] else .stuck
  |_=>.stuck)
 |_,_,_=>.stuck
def xa (len:Nat)(lo hi:Option zZ):Option (Bool×Nat×Nat):=
 match lo,hi with
 |none,none=>some (true,0,len)
 |some (.c (.int _ l)),none=>some (decide (0≤l)&&decide (l≤(len:Int)),l.toNat,len)
 |none,some (.c (.int _ u))=>some (decide (0≤u)&&decide (u≤(len:Int)),0,u.toNat)
 |some (.c (.int _ l)),some (.c (.int _ u))=>some (decide (0≤l)&&decide (l≤u)&&decide (u≤(len:Int)),l.toNat,u.toNat)
 |_,_=>none
def A9:List qC→Option (List Int)
 |[]=>some []
 |.int .i64 n::l=>match A9 l with|some r=>some (n::r)|none=>none
 |_=>none
def UG (len:Nat):Option (Nat×Nat)→Option zZ→Nat
 |none,_=>len
 |some p,none=>p.2
 |some p,some _=>len-p.1
def DS (P:Program)(h:Hp)(t:TypeId)(x:zZ)(lo hi mx:Option zZ):yX:=
 match P.underlying t,mx,x with
 | some (.slice e), none, .c (.fsl sh ty xs) => bif Nat.beq (P.cellsOf e) ty.size then (match xa xs.length lo hi with
  | some (ok, l, u) => .when ok (.c (.fsl sh ty (match lo,hi with
   |none,none=>xs
   |some _,none=>xs.drop l
   |none,some _=>xs.take u
   |some _,some _=>qS xs l (u-l))))
  |none=>.stuck) else .stuck
 |some (.slice e),none,.c (.osl id r)=>match h id with
  | some (.arr _ ty xs) => bif Nat.beq (P.cellsOf e) ty.size then (match xa (UG xs.length r hi) lo hi with
   |some (ok,l,u)=>.when ok (.c (.osl id (some ((match r with|none=>0|some p=>p.1)+l,u-l))))
   |none=>.stuck) else .stuck
  |_=>.stuck
 |some (.slice e),some (.c (.int _ m)),.c (.osl id none)=>match h id with
  | some (.arr _ ty xs) => bif Nat.beq (P.cellsOf e) ty.size then (match lo,hi,xa xs.length lo hi with
   |some _,some _,some (ok,_,u)=>.when (ok&&decide ((u:Int)≤m)&&decide (m≤(xs.length:Int))) (.c .undef)
   |_,_,_=>.stuck) else .stuck
  |_=>.stuck
 | some (.array n e), none, .c (.ptr id off) => bif Nat.beq (P.cellsOf e) 1 then (match h id with
  |some (.box own cells)=>match lo,hi with
   |none,none=>bif Nat.ble (off+n) cells.length then .one (.c (.bsl id off n)) else .stuck
   |_,_=>match mU cells off n with
    |some vs=>match A9 vs,xa n lo hi with
     |some ns,some (ok,l,u)=>.alts [(ok,.c (.fsl true (.int .i64) (qS ns l (u-l))),bif own then[(id,.box false cells)] else[])]
     |_,_=>.stuck
    |none=>.stuck
  |_=>.stuck) else .stuck
 |_,_,_=>.stuck
def tQ (h:Hp)(t:Ty):qC→Option (List t.den×vL)
 |.nsl=>some ([],[])
 |.fsl sh s xs=>bif sh||s.flat then(iu s t xs).map (·,[]) else none
 |.nfl sh s xs=>bif sh||s.flat then(iu s t xs).map (·,[]) else none
 |.osl id r=>match h id with
  |some (.arr _ s xs)=>(iu s t (j9 xs r)).map (·,[])
  |_=>none
 |_=>none
def DT (P:Program)(mat:Bool)(nm:Nat)(h:Hp)(t:TypeId)(b x:zZ):yX:=
 match P.underlying t,h nm,b,x with
 |some (.slice e),none,.c b,.c x=>match kD P e with
  |none=>.stuck
  |some ty=>
   let room (n:Nat):Bool:=Nat.ble (n*P.bytesOf e) 140737488355328&&Nat.ble n 140737488355328
   bif mat then (match ty,b,x with
    |.sl (.int .i64),.osl id none,.osl jd none=>match h id,h jd with
     |some (.mat _ xs),some (.mat _ ys)=>bif Nat.beq id jd then .stuck else
       .alts [(room (xs.length+ys.length),.c (.osl nm none),[(id,.gone),(jd,.gone),(nm,.mat 0 (xs++ys))])]
     |_,_=>.stuck
    |_,_,_=>.stuck)
   else (match b with
    |.nsl=>match tQ h ty x with
     |some (ys,u)=>.alts [(room ys.length,.c (.osl nm none),u++[(nm,.arr true ty ys)])]
     |none=>.stuck
    |.osl id r=>match h id with
     |some (.arr true s iz)=>match iu s ty (j9 iz r),tQ h ty x with
      | some xs, some (ys, u) => (match r with
       | some (0, _) | none => (bif (match x with | .osl jd _ => Nat.beq id jd | _ => false) then (match r,x,iu s ty iz with
         |some (0,i),.osl _ (some (j,m)),some zs=>.alts [(Nat.ble i j,.c (.osl nm (some (0,i+m))),[(id,.gone),(nm,.arr true ty (zs.take i++qS zs j m++zs.drop (i+m)))])]
         |_,_,_=>.stuck) else
         .alts [(room (xs.length+ys.length),.c (.osl nm none),u++[(id,.gone),(nm,.arr true ty (xs++ys))])])
       |_=>.stuck)
      |_,_=>.stuck
     |_=>.stuck
    |_=>.stuck)
 |_,_,_,_=>.stuck
def Ba (xs:List Int):Nat→List qC→List qC
 |_,[]=>[]
 |i,.int .i64 n::cs=>.int .i64 (bif Nat.blt i xs.length then xs.getD i 0 else n)::Ba xs (i+1) cs
 |i,c::cs=>c::Ba xs (i+1) cs
def DU (h:Hp)(d s:zZ):yX:=match d,s with
 |.c (.bsl id off n),.c s=>match h id,(match s with|.nsl=>some ⟨.int .i64,[]⟩|s=>kE h s:Option ((t:Ty)×List t.den)) with
  |some (.box true cells),some ⟨.int .i64,ys⟩=>match mU cells off n with
   |some vs=>match A9 vs with
    |some _=>.alts [(true,.c (.int .i64 ((min ys.length n:Nat):Int)),[(id,.box true (cells.take off++Ba ys 0 vs++cells.drop (off+n)))])]
    |none=>.stuck
   |none=>.stuck
  |_,_=>.stuck
 |_,_=>.stuck
def OC (P:Program)(h:Hp)(t:TypeId)(id lo n:Nat):yX:=match P.underlying t,h id with
 |some (.slice e),some (.arr true s xs)=>match kD P e with
  |some ty=>bif rY ty s then .alts [(true,.undef,[(id,.arr true s (xs.take lo++List.replicate n s.dflt++xs.drop (lo+n)))])] else .stuck
  |none=>.stuck
 |_,_=>.stuck
def OD (lt:Bool):List zZ→yX
 |[.c (.int k x),.c (.int _ y)]=>.one (.c (.int k (bif lt then(bif decide (y<x) then y else x) else(bif decide (y>x) then y else x))))
 |[.c (.int k x),.c (.int _ y),.c (.int _ z)]=>
  let m (a b:Int):Int:=bif lt then(bif decide (b<a) then b else a) else(bif decide (b>a) then b else a)
  .one (.c (.int k (m (m x y) z)))
 |_=>.stuck
abbrev OE:=Nat→Nat→Nat→List zZ→Hp→yX
inductive CS where
 |int (k:IntKind)|bool|dat (sh:Bool) (t:Ty)|lit (v:qC)
inductive VS where
 |c (x:CS)|agg (l:List CS)
inductive OS where
 |box (own:Bool) (l:List CS)|robox (l:List CS)|arr (own:Bool) (t:Ty)|mat|pmat|imap
abbrev SL:List CS→Type
 |[]=>Unit
 |.int _::l=>Int×SL l
 |.bool::l=>Bool×SL l
 |.dat _ t::l=>List t.den×SL l
 |.lit _::l=>SL l
def VS.cells:VS→List CS
 |.c x=>[x]
 |.agg l=>l
abbrev SV:List (Nat×VS)→Type
 |[]=>Unit
 |s::l=>SL s.2.cells×SV l
abbrev OS.den:OS→Type
 |.box _ l=>SL l
 |.robox l=>SL l
 |.arr _ t=>List t.den
 |.mat=>List (List Int)
 |.pmat=>List (List Int)×Nat
 |.imap=>List (Int×Bool)
abbrev OL:List OS→Type
 |[]=>Unit
 |o::l=>o.den×OL l
structure zE where
 slots:List (Nat×VS)
 objs:List OS
 grow:List (Nat×Option Nat×Ty×Bool)
abbrev zE.den (S:zE):Type:=SV S.slots×OL S.objs
def OF:List Nat→List Nat→Bool
 |[],[]=>true
 |a::l,b::m=>Nat.beq a b&&OF l m
 |_,_=>false
def UH:qC→qC→Bool
 |.undef,_=>true
 |.nsl,.nsl|.nilp,.nilp|.nilf,.nilf|.nilm,.nilm=>true
 |.osl a none,.osl b none=>Nat.beq a b
 |.bsl a i n,.bsl b j m=>Nat.beq a b&&Nat.beq i j&&Nat.beq n m
 |.ptr a i,.ptr b j=>Nat.beq a b&&Nat.beq i j
 |.fn f c,.fn g d=>Nat.beq f g&&OF c d
 |.map a,.map b=>Nat.beq a b
 |_,_=>false
def mV:(l:List CS)→List qC→Option (SL l)
 |[],[]=>some ()
 |.int k::l,.int j n::vs=>bif gx j k then(match mV l vs with|some d=>some (n,d)|none=>none) else none
 |.bool::l,.bool b::vs=>match mV l vs with|some d=>some (b,d)|none=>none
 | .dat sh t :: l, .fsl Jy s xs :: vs => bif Jy || !sh then (match iu s t xs,mV l vs with
  |some xs,some d=>some (xs,d)
  |_,_=>none) else none
 |.dat _ _::l,.nsl::vs=>match mV l vs with|some d=>some ([],d)|none=>none
 |.lit c::l,v::vs=>bif UH c v then mV l vs else none
 |_,_=>none
def UI (v:VS)(a:zZ):Option (SL v.cells):=match v,a with
 |.c x,.c y=>mV [x] [y]
 |.agg l,.agg vs=>mV l vs
 |_,_=>none
def OG (o:OS)(x:Obj):Option o.den:=match o,x with
 |.box own l,.box nO cells=>bif own==nO then mV l cells else none
 |.robox l,.robox cells=>mV l cells
 |.arr own t,.arr nO s xs=>bif own==nO then iu s t xs else none
 |.mat,.mat _ xs=>some xs
 |.pmat,.pmat _ xs n=>some (xs,n)
 |.imap,.imap df=>some df
 |_,_=>none
def pO:(l:List CS)→SL l→List qC
 |[],_=>[]
 |.int k::l,d=>.int k d.1::pO l d.2
 |.bool::l,d=>.bool d.1::pO l d.2
 |.dat sh t::l,d=>.fsl sh t d.1::pO l d.2
 |.lit c::l,d=>c::pO l d
def UJ (v:VS)(d:SL v.cells):zZ:=match v,d with
 |.c x,d=>match pO [x] d with|c::_=>.c c|[]=>.undef
 |.agg l,d=>.agg (pO l d)
def OH (o:OS)(d:o.den):Obj:=match o,d with
 |.box own l,d=>.box own (pO l d)
 |.robox l,d=>.robox (pO l d)
 |.arr own t,xs=>.arr own t xs
 |.mat,xs=>.mat 0 xs
 |.pmat,d=>.pmat 0 d.1 d.2
 |.imap,df=>.imap df
def DV:(l:List (Nat×VS))→SV l→List (Nat×zZ)
 |[],_=>[]
 |s::l,d=>(s.1,UJ s.2 d.1)::DV l d.2
def tR:(l:List OS)→OL l→List Obj
 |[],_=>[]
 |o::l,d=>OH o d.1::tR l d.2
def zM (base:Nat)(S:zE)(d:S.den):St:=
  { t:=fun n=>match(DV S.slots d.1).lookup n with|some v=>v|none=>.undef,
    h:=fun n=>bif Nat.ble base n then(tR S.objs d.2)[n-base]? else none}
inductive Ex where
 |normal|ret|exit (id:Nat)
def UK:Ex→Ex→Bool
 |.normal,.normal|.ret,.ret=>true
 |.exit a,.exit b=>Nat.beq a b
 |_,_=>false
abbrev xc:List (Ex×zE)→Type
 |[]=>Empty
 |[p]=>p.2.den
 |p::q::l=>p.2.den⊕xc (q::l)
abbrev pP:List zE→Type
 |[]=>Empty
 |[S]=>S.den
 |S::T::l=>S.den⊕pP (T::l)
structure zU where
 ins:List zE
 outs:List (Ex×zE)
 X:Type
 sum:Nat→pP ins→Option X
 elim:Nat→X→(R:Type)→(Ex→St→Option R)→Option R
structure zV where
 mats:List Nat
 loops:List (Nat×zU)
 unr:List (Nat×Nat)
 wise:Bool
structure Env where
 P:Program
 eqT:TypeId→Bool
 sums:OE
def se (pre:Nat):Option Nat→Nat
 |some d=>pre+100*(d+1)
 |none=>pre
def xd:zZ→Option Nat
 |.c (.ptr id 0)=>some id
 |_=>none
def UL (P:Program)(mat:Bool)(nm:Nat)(h:Hp)(b:Builtin)(ts:Array TypeId)(l:List zZ):yX:=match b with
 |.len=>match l with
  |[.c v]=>match(ts[0]?).bind P.underlying with
   |some (.slice _)=>match DH h v with
    |some n=>.one (.c (.int .i64 (n:Int)))
    |none=>.stuck
   |_=>.stuck
  |_=>.stuck
 |.append=>match l with
  |[b,x]=>match ts.toList with
   |[t,u]=>bif Nat.beq t u then DT P mat nm h t b x else .stuck
   |_=>.stuck
  |_=>.stuck
 |.copy=>match l with
  |[d,s]=>match(ts[0]?).bind P.underlying with
   |some (.slice e)=>bif Nat.beq (P.cellsOf e) 1 then DU h d s else .stuck
   |_=>.stuck
  |_=>.stuck
 |.clear=>match l with
  |[.c (.osl id (some (lo,n)))]=>match ts[0]? with
   |some t=>OC P h t id lo n
   |none=>.stuck
  |_=>.stuck
 |.max=>OD false l
 |.min=>OD true l
 |_=>.stuck
def lD (E:Env)(A:zV)(k pre:Nat)(o:Oper)(ev:Operand→zZ)(h:Hp):yX:=
 let nm:=se pre o.dst;let mat:=match o.dst with|some d=>A.mats.any (Nat.beq d)|none=>false
 match o.op with
 |.move x|.assign x=>.one (ev x)
 |.pick c a b=>match ev c with
  |.c (.bool c)=>match ev a,ev b with
   |.c (.bool a),.c (.bool b)=>.one (.c (.bool (bif c then a else b)))
   |va,vb=>.alts [(c,va,[]),(true,vb,[])]
  |_=>.stuck
 |.alloc t=>match h nm,zeroCells E.P t with
  |none,some zs=>.alts [(true,.c (.ptr nm 0),[(nm,.box true zs)])]
  |_,_=>.stuck
 |.box t x=>match h nm,oQ (ev x) with
  |none,some vs=>.alts [(true,.c (.ptr nm 0),[(nm,.box (!mat) vs)])]
  |_,_=>.stuck
 |.build t parts=>UF E.P t (parts.toList.map fun p=>(p.1,ev p.2))
 |.buildSlice t n parts=>DN E.P mat nm h t n (parts.toList.map fun p=>(p.1,ev p.2))
 |.load t a=>DK E.P h t (ev a)
 |.store t a v=>DL E.P h t (ev a) (ev v)
 |.nilCheck x=>match ev x with
  |.c (.ptr a b)=>.one (.c (.ptr a b))
  |.c (.eptr a b c)=>.one (.c (.eptr a b c))
  |.c (.fptr s t x off)=>.one (.c (.fptr s t x off))
  |.c (.fn f c)=>.one (.c (.fn f c))
  |_=>.stuck
 |.binOp op t x y _=>
  bif Uy y && Ux op then (match E.P.underlying t,ev x with
   |some d,.c v=>match Uw d y v with
    |some b=>.one (.c (.bool (sb op b)))
    |none=>match d,y,DI h v with
     |.slice _,.const (.slice none 0 0),some n=>.when (Nat.blt 0 n) (.c (.bool (sb op false)))
     |_,_,_=>.stuck
   |_,_=>.stuck)
  else Uz E.P E.eqT op t x y (ev x) (ev y)
 |.unOp op _ x=>UA op (ev x)
 |.convert s d x=>match E.P.underlying s,E.P.underlying d,ev x with
  |some (.int _),some (.int k),.c (.int _ n)=>.one (.c (.int k (k.wrap n)))
  |some (.slice e),some .string,.c c=>match E.P.underlying e,DG h c with
   |some (.int .u8),some xs=>.one (.c (.str xs))
   |_,_=>.stuck
  |_,_,_=>.stuck
 | .makeFunc (.func f) first captured => bif Nat.beq first.size 0 then (match captured.toList.mapM (fun x=>xd (ev x)) with
   |some ids=>.one (.c (.fn f ids))
   |none=>.stuck) else .stuck
 |.makeSlice t l c=>DO E.P mat nm h t (ev l) (ev c)
 |.makeMap t none=>DP E.P nm h t
 |.lookup t x i false=>DQ E.P h t (ev x) (ev i)
 |.mapUpdate t x i y=>DR E.P h t (ev x) (ev i) (ev y)
 |.slice t x lo hi mx=>DS E.P h t (ev x) (lo.map ev) (hi.map ev) (mx.map ev)
 |.fieldAddr t x f=>UB E.P t (ev x) f
 |.field t x f=>UE E.P t (ev x) f
 |.indexAddr t x i=>DM E.P h t (ev x) (ev i)
 |.index t x i=>match x with
  |.const (.string s)=>UD E.P t s (ev i)
  |_=>UC E.P t (ev x) (ev i)
 |.extract t i=>match ev t with
  |.tup xs=>match xs[i]? with
   |some (g,vs)=>.ofO (rZ (some g) vs)
   |none=>.stuck
  |_=>.stuck
 |.call c=>match c.callee with
  |.builtin b=>UL E.P mat nm h b c.argTypes (c.args.toList.map ev)
  |.value f=>match ev f with
   |.c (.fn f cap)=>E.sums k nm f (c.args.toList.map ev++cap.map fun id=>.c (.ptr id 0)) h
   |_=>.stuck
  |_=>.stuck
 |_=>.stuck
structure DW where
 i:Nat
 nm:Nat
 upd:List Nat
 refs:Option (List Nat)
def vO:qC→List Nat
 |.osl id _|.bsl id _ _|.ptr id _|.eptr id _ _|.mrow id _ _|.mptr id _|.meptr id _ _ _|.map id=>[id]
 |.fn _ cap=>cap
 |_=>[]
def yU:zZ→List Nat
 |.c v=>vO v
 |.agg vs=>vs.flatMap vO
 |.tup xs=>xs.flatMap fun x=>x.2.flatMap vO
 |_=>[]
def wU:zZ→Bool
 |.c (.ptr _ _)|.c (.map _)|.c (.eptr _ _ _)|.c (.mptr _ _)|.c (.meptr _ _ _ _)|.c (.bsl _ _ _)=>true
 |.c (.fn _ cap)=> !cap.isEmpty
 |_=>false
def UM:Op→Bool
 |.call {callee:=.value _,..}=>true
 |_=>false
def yXf:Op→Bool
 |.move _|.assign _|.nilCheck _|.fieldAddr _ _ _|.field _ _ _|.extract _ _=>true
 |_=>false
def sf (ev:Operand→zZ)(o:Oper):Option (List Nat):=bif yXf o.op then some [] else
 let vals:=o.op.operands.toList.map ev
 bif UM o.op&&vals.any wU then none else some (vals.flatMap yU)
def OI (a:List Nat):Option (List Nat)→Bool
 |none=> !a.isEmpty
 |some b=>a.any fun x=>b.any (Nat.beq x)
def nP (nm a:Nat):Bool:=Nat.ble nm a&&Nat.blt a (nm+100)
def tS (x y:DW):Bool:=OI x.upd y.refs||OI y.upd x.refs||x.upd.any (nP y.nm)||y.upd.any (nP x.nm)||x.upd.any fun a=>y.upd.any (Nat.beq a)
def nQ (b:Array Nat)(i j:Nat):Bool:=(b.getD j 0).testBit i
def tT (ops:Array Oper)(i j:Nat):Bool:=match ops[i]?,ops[j]? with
 |some x,some y=>x.apart ops y
 |_,_=>false
def Jz (ops:Array Oper):Bool:=ops.toList.zipIdx.all fun p=>p.1.after.toList.all fun e=> !Region.binds .any e||Nat.blt e.on p.2
def xe (na nt:Nat):Option Nat→Bool
 |some d=>Nat.ble na d&&Nat.blt d nt
 |none=>true
def eY (u:vL):List Nat:=u.map (·.1)
section
variable (E:Env) (A:zV) (k pre na nt:Nat) {R:Type}
def OJ (o:Oper)(st:St)(K:zZ→vL→St→Option R):Option R:=
 bif xe na nt o.dst then
  (lD E A k pre o st.ev st.h).elim fun v u=>K v u {t:=j8 st.t o.dst v,h:=qL st.h u}
 else none
def OK (ops:Array Oper)(j:Nat):Option Nat:=(ops[j]?).bind (·.dst)
def OM (ops:Array Oper)(o:Oper)(st:St)(yes no:St→Option R):Option R:=match o.guard with
 |none=>yes st
 |some (j,want)=>match OK ops j with
  |none=>none
  |some s=>match st.t s with
   |.c (.bool b)=>bif b then(let st:={st with t:=jY st.t s (.c (.bool true))};bif want then yes st else no st)
     else(let st:={st with t:=jY st.t s (.c (.bool false))};bif want then no st else yes st)
   |.skp=>no st
   |_=>none
def ON (ops:Array Oper):List (Nat×Oper)→St→(St→Option R)→Option R
 |[],st,K=>K st
 |(_,o)::rest,st,K=>OM ops o st
   (fun st=>OJ E A k pre na nt o st fun _ _ st=>ON ops rest st K)
   (fun st=>bif xe na nt o.dst then ON ops rest {st with t:=j8 st.t o.dst .skp} K else none)
def DX (ops:Array Oper)(b:Array Nat):List (Nat×Oper)→List DW→St→(St→Option R)→Option R
 |[],_,st,K=>K st
 |(i,o)::rest,done,st,K=>
  bif done.all fun d=>nQ b d.i i||tT ops d.i i then OM ops o st
   (fun st=>let r:=sf st.ev o;OJ E A k pre na nt o st fun _ u st=>
    let x:DW:=⟨i,se pre o.dst,eY u,r⟩
    bif done.all fun d=>nQ b d.i i|| !tS d x then DX ops b rest (x::done) st K else none)
   (fun st=>bif xe na nt o.dst then DX ops b rest (⟨i,se pre o.dst,[],some []⟩::done) {st with t:=j8 st.t o.dst .skp} K else none)
  else none
def UN:Option Obj→List Nat
 |some (.box _ cells)=>cells.flatMap vO
 |some (.robox cells)=>cells.flatMap vO
 |_=>[]
def DY (h:Hp):Nat→List Nat→List Nat→List Nat
 |0,_,seen=>seen
 |_,[],seen=>seen
 |n+1,id::todo,seen=>bif seen.any (Nat.beq id) then DY h n todo seen else DY h n (UN (h id)++todo) (seen++[id])
def fu (id:Nat):List Nat→Nat→Option Nat
 |[],_=>none
 |a::l,i=>bif Nat.beq a id then some i else fu id l (i+1)
def xf (h:Hp)(ρ:Nat→Option Nat):qC→qC
 |.osl id r=>match ρ id with|some i=>.osl i r|none=>.undef
 |.bsl id a b=>match ρ id with|some i=>.bsl i a b|none=>.undef
 |.ptr id a=>match ρ id with|some i=>.ptr i a|none=>.undef
 |.eptr id a b=>match ρ id with|some i=>.eptr i a b|none=>.undef
 |.mrow id a ver=>match ρ id,h id with
  |some i,some (.mat v _)=>bif Nat.beq v ver then .mrow i a 0 else .undef
  |_,_=>.undef
 |.mptr id a=>match ρ id with|some i=>.mptr i a|none=>.undef
 |.meptr id a b ver=>match ρ id,h id with
  |some i,some (.mat v _)=>bif Nat.beq v ver then .meptr i a b 0 else .undef
  |_,_=>.undef
 |.map id=>match ρ id with|some i=>.map i|none=>.undef
 |.fn f cap=>match cap.mapM ρ with|some c=>.fn f c|none=>.undef
 |v=>v
def yHh (h:Hp)(ρ:Nat→Option Nat):zZ→zZ
 |.c v=>.c (xf h ρ v)
 |.agg vs=>.agg (vs.map (xf h ρ))
 |.tup xs=>.tup (xs.map fun x=>(x.1,x.2.map (xf h ρ)))
 |v=>v
def xg (h:Hp)(ρ:Nat→Option Nat):Obj→Obj
 |.box own cells=>.box own (cells.map (xf h ρ))
 |.robox cells=>.robox (cells.map (xf h ρ))
 |.mat _ xs=>.mat 0 xs
 |.pmat _ xs n=>.pmat 0 xs n
 |o=>o
def iA:Nat:=1000000
def UO (st:St)(s:Nat):Option Nat→St
 |none=>match st.t s with
  |.c c=>match oS st.h c with
   |some (c',u)=>{t:=jY st.t s (.c c'),h:=qL st.h u}
   |none=>st
  |_=>st
 |some j=>match st.t s with
  |.c (.ptr id 0)=>match st.h id with
   |some (.box true cells)=>match cells[j]? with
    |some c=>match oS st.h c with
     |some (c',u)=>{st with h:=yP (qL st.h u) id (.box true (cells.set j c'))}
     |none=>st
    |none=>st
   |_=>st
  |.agg cells=>match cells[j]? with
   |some c=>match oS st.h c with
    |some (c',u)=>{t:=jY st.t s (.agg (cells.set j c')),h:=qL st.h u}
    |none=>st
   |none=>st
  |_=>st
def vHw:Ty→Bool
 |.bool=>true
 |_=>false
def UP (st:St)(nm:Nat)(g:Nat×Option Nat×Ty×Bool):St:=bif g.2.2.2&&vHw g.2.2.1 then UO st g.1 g.2.1 else match g.2.1 with
 |none=>match st.t g.1 with
  |.c .nsl=>{t:=jY st.t g.1 (.c (.osl nm none)),h:=yP st.h nm (bif g.2.2.2 then .mat 0 [] else .arr true g.2.2.1 [])}
  |_=>st
 |some j=>match st.t g.1 with
  |.c (.ptr id 0)=>match st.h id with
   |some (.box true cells)=>match cells[j]? with
    |some .nsl=>{st with h:=yP (yP st.h nm (bif g.2.2.2 then .mat 0 [] else .arr true g.2.2.1 [])) id (.box true (cells.set j (.osl nm none)))}
    |_=>st
   |_=>st
  |_=>st
def OO (st:St):Nat→List (Nat×Option Nat×Ty×Bool)→Option St
 |_,[]=>some st
 |nm,g::l=>match st.h nm with
  |none=>OO (UP st nm g) (nm+1) l
  |some _=>none
def Bb (base : Nat) (h : Hp) (ids : List Nat) : Hp := fun n => bif Nat.ble base n then (match ids[n-base]? with
 |some id=>(h id).map (xg h fun i=>(fu i ids 0).map (base+·))
 |none=>none) else none
def OP (f:zZ→zZ)(t:Nat→zZ):(l:List (Nat×VS))→Option (SV l)
 |[]=>some ()
 |s::l=>match UI s.2 (f (t s.1)),OP f t l with
  |some d,some ds=>some (d,ds)
  |_,_=>none
def OQ (f:Obj→Obj)(h:Hp):(l:List OS)→List Nat→Option (OL l)
 |[],[]=>some ()
 |o::l,id::ids=>match(h id).bind fun x=>OG o (f x),OQ f h l ids with
  |some d,some ds=>some (d,ds)
  |_,_=>none
 |_,_=>none
def UQ (g0 base n:Nat)(S:zE)(st:St):Option S.den:=match OO st g0 S.grow with
 |none=>none
 |some st=>
  let ids:=DY st.h n (S.slots.flatMap fun s=>yU (st.t s.1)) []
  match OP (yHh st.h fun i=>(fu i ids 0).map (base+·)) st.t S.slots,OQ (xg st.h fun i=>(fu i ids 0).map (base+·)) st.h S.objs ids with
  |some a,some b=>some (a,b)
  |_,_=>none
def JA (S:zE)(st:St):Option S.den:=UQ (pre+500000) (pre+iA) 400 S st
def DZ:(l:List zE)→St→Option (pP l)
 |[],_=>none
 |[S],st=>JA pre S st
 |S::T::l,st=>match JA pre S st with
  |some d=>some (.inl d)
  |none=>match DZ (T::l) st with
   |some d=>some (.inr d)
   |none=>none
def OR (base:Nat):(l:List zE)→pP l→(St→Option R)→Option R
 |[],_,_=>none
 |[S],d,K=>K (zM base S d)
 |S::T::l,d,K=>match d with
  |.inl d=>K (zM base S d)
  |.inr d=>OR base (T::l) d K
def JB:(l:List (Ex×zE))→Ex→St→Option (xc l)
 |[],_,_=>none
 |[p],e,st=>bif UK p.1 e then JA pre p.2 st else none
 |p::q::l,e,st=>match(bif UK p.1 e then JA pre p.2 st else none) with
  |some d=>some (.inl d)
  |none=>match JB (q::l) e st with
   |some d=>some (.inr d)
   |none=>none
def D4 (base:Nat):(l:List (Ex×zE))→xc l→(Ex→St→Option R)→Option R
 |[],_,_=>none
 |[p],d,K=>K p.1 (zM base p.2 d)
 |p::q::l,d,K=>match d with
  |.inl d=>K p.1 (zM base p.2 d)
  |.inr d=>D4 base (q::l) d K
def yYj ins outs {X:Type}(mW:xc outs→X)(again:pP ins→Option X):Ex→St→Option X
 |.normal,st=>match DZ pre ins st with
  |some d=>again d
  |none=>none
 |e,st=>match JB pre outs e st with
  |some o=>some (mW o)
  |none=>none
def Bc:Code→Option Nat
 |.region id _ _=>some id
 |.seq a b=>match Bc a with|some i=>some i|none=>Bc b
 |.cond _ a b=>match Bc a with|some i=>some i|none=>Bc b
 |.block _ b|.loop b|.scope b=>Bc b
 |_=>none
def xh (b:Code):Option zU:=match Bc b with
 |some i=>A.loops.lookup i
 |none=>none
def UR (b:Code):Nat:=match Bc b with
 |some i=>(A.unr.lookup i).getD 0
 |none=>0
def US (b:St→(Ex→St→Option R)→Option R):Nat→St→(Ex→St→Option R)→Option R
 |0,_,_=>none
 |n+1,st,K=>b st fun e st=>match e with
  |.normal=>US b n st K
  |e=>K e st
def OT (c:Operand)(b:Bool)(st:St):St:=match A.wise,c with
 |true,.tmp s=>{st with t:=jY st.t s (.c (.bool b))}
 |_,_=>st
def kF:Code→St→(Ex→St→Option R)→Option R
 |.skip,st,K=>K .normal st
 |.region _ ops draw,st,K=>bif draw
   then bif !Jz ops then none else DX E A k pre na nt ops (Region.before ops) (ops.toList.zipIdx.map fun p=>(p.2,p.1)) [] st (K .normal)
   else ON E A k pre na nt ops (ops.toList.zipIdx.map fun p=>(p.2,p.1)) st (K .normal)
 |.seq a b,st,K=>kF a st fun e st=>match e with
  |.normal=>kF b st K
  |e=>K e st
 |.cond c a b,st,K=>match st.ev c with
  |.c (.bool t)=>bif t then kF a (OT A c true st) K else kF b (OT A c false st) K
  |_=>none
 |.block id b,st,K=>kF b st fun e st=>match e with
  |.exit i=>bif Nat.beq i id then K .normal st else K (.exit i) st
  |e=>K e st
 |.loop b,st,K=>match xh A b with
  |none=>US (kF b) (UR A b) st K
  |some L=>match DZ pre L.ins st with
   |none=>none
   |some d=>(L.sum k d).bind fun x=>L.elim (pre+iA) x R K
 |.exit id,st,K=>K (.exit id) st
 |.ret,st,K=>K .ret st
 |_,_,_=>none
def xi (st:St):ResultVar→Option zZ
 |.tmp t=>some (st.t t)
 |.cell a t=>match st.t a with
  |.c (.ptr id off)=>match st.h id with
   |some (.box _ cells)=>match mU cells off (E.P.cellsOf t) with
    |some vs=>rZ (eL E.P t) vs
    |none=>none
   |_=>none
  |_=>none
def D5:zZ→Option (Bool×List qC)
 |.c v=>some (false,[v])
 |.agg vs=>some (true,vs)
 |_=>none
def OU (fn:Func)(st:St):Option zZ:=match fn.results.toList with
 |[]=>some (.tup [])
 |[r]=>xi E st r
 |rs=>match rs.mapM (fun r=>(xi E st r).bind D5) with
  |some xs=>some (.tup xs)
  |none=>none
def OV (args:List zZ):Nat→zZ:=fun n=>args.getD n .skp
def kG (fn:Func)(args:List zZ)(h:Hp)(K:zZ→St→Option R):Option R:=match fn.body with
 |none=>none
 |some code=>bif Nat.ble args.length fn.ntmps then kF E A k pre na fn.ntmps code {t:=OV args,h:=h} fun e st=>match e with
  |.exit _=>none
  |_=>match OU E fn st with
   |some v=>K v st
   |none=>none
  else none
end
def _root_.Go.Value.one1:Value→Bool
 |.agg _|.tuple _=>false
 |_=>true
def yY (H:Array Go.Obj)(B o:Nat):Option Value:=match H[B]? with
 |some (.cells c _ _)=>c[o]?
 |_=>none
def yE (H:Array Go.Obj)(B:Nat):Nat:=match H[B]? with
 |some (.cells c _ _)=>c.size
 |_=>0
theorem tU (w:World) B o:w.cell? ⟨B,o,none⟩=yY w.heap B o:=by
 rfl
theorem UT {H H' B}(h:H'[B]? =H[B]?) o:yY H' B o=yY H B o:=by unfold yY;rw[h]
theorem D6 {H H' B}(h:H'[B]? =H[B]?):yE H' B=yE H B:=by unfold yE;rw[h]
def qH (H:Array Go.Obj)(F:Nat→Prop):(t:Ty)→t.den→(Nat→Option Value)→Prop
 |.int k,n,rd=>rd 0=some (.int k n)
 |.bool,b,rd=>rd 0=some (.bool b)
 |.sl t,xs,rd=>∃A n c,rd 0=some (.slice A n c)∧n=xs.length∧n≤c∧
   ((xs=[]∧(A=none→c=0))∨∃B o,A=some ⟨B,o,none⟩∧F B∧∀i (h:i<xs.length),qH H F t xs[i] (fun j=>yY H B (o+i*t.size+j)))
 |.pair a b,p,rd=>qH H F a p.1 rd∧qH H F b p.2 (fun j=>rd (j+a.size))
theorem vF {H H' F F'}(hF:∀b,F b→F' b)(hs:∀b,F b→H'[b]? =H[b]?):
  ∀t x rd gz,(∀j,j<t.size→gz j=rd j)→qH H F t x rd→qH H' F' t x gz
 |.int k,n,rd,gz,hr,h
 |.bool,n,rd,gz,hr,h=>by simp[qH] at h⊢;rw[hr 0 (by simp[Ty.size])];exact h
 |.sl t,xs,rd,gz,hr,h=>by
  obtain⟨A,n,c,h1,h2,h3,h4⟩:=h;refine⟨A,n,c,by rw[hr 0 (by simp[Ty.size])];exact h1,h2,h3,?_⟩;rcases h4 with h4|⟨B,o,e,hB,h4⟩
  ·simp_all
  ·exact .inr ⟨B,o,e,hF B hB,fun i hi=>vF hF hs t _ _ _ (fun j _=>UT (hs B hB) _) (h4 i hi)⟩
 |.pair a b,p,rd,gz,hr,h=>by
  exact⟨vF hF hs a _ _ _ (fun j hj=>hr j (by simp[Ty.size];omega)) h.1,
   vF hF hs b _ _ _ (fun j hj=>hr _ (by simp[Ty.size];omega)) h.2⟩
theorem Ty.size_pos:∀t:Ty,0<t.size
 |.int _|.bool|.sl _=>by simp[Ty.size]
 |.pair a b=>by have:=Ty.size_pos a;simp[Ty.size];omega
structure qE where
 blk:Option Nat
 len:Nat
 sz:Nat
 ver:Nat
 rows:List (Option Nat×Nat)
def qE.fp (C:qE):List Nat:=C.blk.toList++C.rows.filterMap (·.1)
structure qE.le (C C':qE):Prop where
 blk:C'.blk=C.blk
 len:C'.len=C.len
 sz:C'.sz=C.sz
 ver:C.ver≤C'.ver
 rows:C'.ver=C.ver→C'.rows=C.rows
theorem qE.le_refl (C:qE):C.le C:=⟨rfl,rfl,rfl,by simp,by simp⟩
theorem qE.le_trans {A B C:qE}(h:A.le B)(k:B.le C):A.le C:=
 ⟨k.blk.trans h.blk,k.len.trans h.len,k.sz.trans h.sz,Nat.le_trans h.ver k.ver,fun e=>by
  have:=h.ver;have:=k.ver;rw[k.rows (by omega),h.rows (by omega)]⟩
structure zN where
 κ:Nat→Option qE
 F:Nat→Prop
 G:Nat→Prop
 h:Hp
 H:Array Go.Obj
def zO {α β:Type}(R:α→β→Prop):List α→List β→Prop
 |[],[]=>True
 |a::l,b::m=>R a b∧zO R l m
 |_,_=>False
theorem zO.mono {α β R S}(h:∀a b,R a b→S a b):∀{l:List α} {m:List β},zO R l m→zO S l m
 |[],[],_=>trivial
 |_::_,_::_,hh=>⟨h _ _ hh.1,zO.mono h hh.2⟩
theorem zO.length {α β R}:∀{l:List α} {m:List β},zO R l m→l.length=m.length
 |[],[],_=>rfl
 |_::_,_::_,hh=>by simp[zO.length hh.2]
theorem zO.get {α β R}:∀{l:List α} {m:List β},zO R l m→∀i h (h':i<m.length),R l[i] m[i]
 |_::_,_::_,hh,0,_,_=>hh.1
 |_::_,_::_,hh,i+1,h,h'=>zO.get hh.2 i (by simp_all) (by simp_all)
theorem zO.of_get {α β R}:∀{l:List α} {m:List β},l.length=m.length→(∀i h (h':i<m.length),R l[i] m[i])→zO R l m
 |[],[],_,_=>trivial
 |a::l,b::m,hl,h=>⟨h 0 (by simp) (by simp),zO.of_get (by simp_all) fun i h1 h2=>h (i+1) (by simp_all) (by simp_all)⟩
theorem zO.append {α β R}:∀{l l':List α} {m m':List β},zO R l m→zO R l' m'→zO R (l++l') (m++m')
 |[],_,[],_,_,k=>k
 |_::_,_,_::_,_,h,k=>⟨h.1,zO.append h.2 k⟩
theorem zO.drop {α β R}:∀n {l:List α} {m:List β},zO R l m→zO R (l.drop n) (m.drop n)
 |0,_,_,h=>h
 |n+1,[],[],_=>trivial
 |n+1,_::_,_::_,h=>zO.drop n h.2
theorem zO.take {α β R}:∀n {l:List α} {m:List β},zO R l m→zO R (l.take n) (m.take n)
 |0,_,_,_=>by simp[zO]
 |n+1,[],[],_=>trivial
 |n+1,_::_,_::_,h=>⟨h.1,zO.take n h.2⟩
theorem zO.set {α β R}{a:α}{b:β}(D7:R a b):∀n {l m},zO R l m→zO R (l.set n a) (m.set n b)
 |_,[],[],_=>trivial
 |0,_::_,_::_,h=>⟨D7,h.2⟩
 |n+1,_::_,_::_,h=>⟨h.1,zO.set D7 n h.2⟩
def jJ (H:Array Go.Obj)(C:qE)(lo n:Nat)(v:Value):Prop:=∃A c,v=.slice A n c∧match C.blk with
 |none=>A=none∧n=0∧c=0
 |some B=>n≤c∧∃a,A=some ⟨B,a,none⟩∧(c=0∨a=lo*C.sz)∧(lo+c)*C.sz≤yE H B
def mX (H:Array Go.Obj)(rb:Option Nat)(n:Nat)(v:Value):Prop:=match rb with
 |none=>v=.slice none 0 0∧n=0
 |some B=>∃a c,v=.slice (some ⟨B,a,none⟩) n c∧n≤c∧(c=0∨a=0)∧c≤yE H B
def UU (C:qE)(lo:Nat)(v:Value):Prop:=∃A n c,v=.slice A n c∧C.len≤lo+c
def qA (M:zN):qC→Value→Prop
 |.undef,v=>v.one1=true
 |.int k n,v=>v=.int k n
 |.bool b,v=>v=.bool b
 |.fsl sh t xs,v=>qH M.H (bif sh then M.G else M.F) (.sl t) xs (fun _=>some v)
 |.nsl,v=>v=.slice none 0 0
 |.nfl sh t xs,v=>(∃a n c,v=.slice (some a) n c)∧qH M.H (bif sh then M.G else M.F) (.sl t) xs (fun _=>some v)
 |.osl id r,v=>∃C,M.κ id=some C∧match r with
  |none=>jJ M.H C 0 C.len v
  |some (lo,n)=>lo+n≤C.len∧jJ M.H C lo n v∧UU C lo v
 |.bsl id off n,v=>∃C B,M.κ id=some C∧C.blk=some B∧v=.slice (some ⟨B,off,none⟩) n n
 |.ptr id off,v=>∃C B,M.κ id=some C∧C.blk=some B∧v=.pointer (some ⟨B,off,none⟩)
 |.eptr id i off,v=>∃C B,M.κ id=some C∧C.blk=some B∧i<C.len∧v=.pointer (some ⟨B,i*C.sz+off,none⟩)
 |.fptr sh t x off,v=>∃B o,v=.pointer (some ⟨B,o+off,none⟩)∧(bif sh then M.G else M.F) B∧qH M.H (bif sh then M.G else M.F) t x (fun j=>yY M.H B (o+j))
 |.mrow id i ver,v=>∃C,M.κ id=some C∧v.one1=true∧ver≤C.ver∧(C.ver=ver→∃rb rl,C.rows[i]? =some (rb,rl)∧mX M.H rb rl v)
 |.mptr id i,v=>∃C B,M.κ id=some C∧C.blk=some B∧i<C.len∧v=.pointer (some ⟨B,i,none⟩)
 |.meptr id i j ver,v=>∃C,M.κ id=some C∧v.one1=true∧ver≤C.ver∧(C.ver=ver→∃B rl,C.rows[i]? =some (some B,rl)∧j<rl∧v=.pointer (some ⟨B,j,none⟩))
 |.nilp,v=>v=.pointer none
 |.nilf,v=>v=.nilFunc
 |.nilm,v=>v=.map none
 |.fn f cap,v=>∃cv,v=.func (.func f) #[] cv∧zO (fun id u=>∃C B,M.κ id=some C∧C.blk=some B∧u=.pointer (some ⟨B,0,none⟩)) cap cv.toList
 |.map id,v=>∃C B,M.κ id=some C∧C.blk=some B∧v=.map (some B)
 |.str xs,v=>v=.string ⟨(nM xs).toArray⟩
theorem jJ.one {H C lo n v}(h:jJ H C lo n v):v.one1=true:=by
 obtain⟨A,c,rfl,_⟩:=h;rfl
theorem qA.one {M c v}(h:qA M c v):v.one1=true:=by
 cases c with
 |undef=>exact h
 |fsl sh t xs=>obtain⟨A,n,c,e,_⟩:=h;simp at e;rw[e];rfl
 |nfl sh t xs=>obtain⟨⟨a,n,c,e⟩,_⟩:=h;rw[e];rfl
 |osl id r=>
  obtain⟨C,_,h⟩:=h;cases r with
  |none=>exact jJ.one h
  |some p=>exact jJ.one h.2.1
 |bsl id off n=>obtain⟨C,B,_,_,rfl⟩:=h;rfl
 |ptr id off=>obtain⟨C,B,_,_,rfl⟩:=h;rfl
 |eptr id i off=>obtain⟨C,B,_,_,_,rfl⟩:=h;rfl
 |fptr sh t x off=>obtain⟨B,o,rfl,_⟩:=h;rfl
 |mrow id i ver=>obtain⟨C,_,h,_⟩:=h;exact h
 |mptr id i=>obtain⟨C,B,_,_,_,rfl⟩:=h;rfl
 |meptr id i j ver=>obtain⟨C,_,h,_⟩:=h;exact h
 |fn f cap=>obtain⟨cv,rfl,_⟩:=h;rfl
 |map id=>obtain⟨C,B,_,_,rfl⟩:=h;rfl
 |_=>rw[show v=_ from h];rfl
def xj (M:zN)(x:Bool×List qC)(v:Value):Prop:=match x with
 |(false,[c])=>qA M c v
 |(true,cs)=>∃vs,v=.agg vs∧zO (qA M) cs vs.toList
 |_=>False
def zX (M:zN):zZ→Value→Prop
 |.undef,_=>True
 |.skp,v=>v=undef
 |.c x,v=>qA M x v
 |.agg cs,v=>∃vs,v=.agg vs∧zO (qA M) cs vs.toList
 |.tup xs,v=>∃vs,v=.tuple vs∧zO (xj M) xs vs.toList
def Obj.owned:Obj→Bool
 |.box o _=>o
 |.arr o _ _=>o
 |.robox _=>false
 |.mat _ _=>true
 |.pmat _ _ _=>true
 |.imap _=>true
 |.gone=>false
def fw (n:Int):List MapEntry→Option Value
 |[]=>none
 |e::es=>match e.key with
  |.int .i64 m=>if n=m then some e.val else fw n es
  |_=>fw n es
def vC (M:zN)(o:Obj)(C:qE):Prop:=match o with
 |.box own cells=>∃B vals e,C.blk=some B∧C.rows=[]∧M.H[B]? =some (.cells vals e (0,0))∧zO (qA M) cells vals.toList∧(own=false→M.G B)
 |.robox cells=>∃B vals e,C.blk=some B∧C.rows=[]∧M.H[B]? =some (.cells vals e (0,0))∧zO (qA M) cells vals.toList∧M.F B
 | .arr own t xs => C.len = xs.length ∧ C.sz = t.size ∧ (own = true → C.rows = []) ∧ (match C.blk with
  |none=>xs=[]
  |some B=>∃vals e,M.H[B]? =some (.cells vals e (0,0))∧(own=false→M.G B)∧xs.length*t.size≤vals.size∧
    ∀i (h:i<xs.length),qH M.H M.G t xs[i] (fun j=>vals[i*t.size+j]?))
 | .mat ver xs => C.ver = ver ∧ C.len = xs.length ∧ C.sz = 1 ∧ C.rows.length = xs.length ∧ C.fp.Nodup ∧ (match C.blk with
  |none=>xs=[]
  |some B=>∃vals e,M.H[B]? =some (.cells vals e (0,0))∧xs.length≤vals.size∧
    ∀i (h:i<xs.length),∃rb v,C.rows[i]? =some (rb,xs[i].length)∧vals[i]? =some v∧mX M.H rb xs[i].length v∧
     (∀R,rb=some R→∃rv er,M.H[R]? =some (.cells rv er (0,0))∧∀j (h':j<xs[i].length),rv[j]? =some (.int .i64 xs[i][j])))
 | .pmat ver xs n => C.ver = ver ∧ C.len = n ∧ C.sz = 1 ∧ C.rows.length = xs.length ∧ C.fp.Nodup ∧ xs.length ≤ n ∧ (match C.blk with
  |none=>n=0
  |some B=>∃vals e,M.H[B]? =some (.cells vals e (0,0))∧n≤vals.size∧
    ∀i (h:i<xs.length),∃rb v,C.rows[i]? =some (rb,xs[i].length)∧vals[i]? =some v∧mX M.H rb xs[i].length v∧
     (∀R,rb=some R→∃rv er,M.H[R]? =some (.cells rv er (0,0))∧∀j (h':j<xs[i].length),rv[j]? =some (.int .i64 xs[i][j])))
 |.imap df=>∃B es ck,C.blk=some B∧C.rows=[]∧M.H[B]? =some (.map es ck)∧(∀e∈es.toList,∃n b,e.key=.int .i64 n∧e.val=.bool b)∧
   ∀n,fw n es.toList=(df.lookup n).map .bool
 |.gone=>True
def qU (M:zN)(b:Nat):Prop:=∃id o C,M.h id=some o∧o.owned=true∧M.κ id=some C∧b∈C.fp
structure Ok (M:zN):Prop where
 obj:∀id o,M.h id=some o→∃C,M.κ id=some C∧vC M o C
 non:∀id,M.h id=none→M.κ id=none
 disj:∀i j oi oj Ci Cj b,i≠j→M.h i=some oi→M.h j=some oj→oi.owned=true→oj.owned=true→M.κ i=some Ci→M.κ j=some Cj→b∈Ci.fp→b∈Cj.fp→False
 own:∀b,qU M b→¬M.F b∧b<M.H.size
 GF:∀b,M.G b→M.F b
 Flt:∀b,M.F b→b<M.H.size
structure yV (M M':zN):Prop where
 κ:∀id C,M.κ id=some C→∃C',M'.κ id=some C'∧C.le C'
 F:∀b,M.F b→M'.F b
 G:∀b,M.G b→M'.G b
 same:∀b,M.F b→M'.H[b]? =M.H[b]?
 sameG:∀b,M.G b→M'.H[b]? =M.H[b]?
 bsz:∀b,b<M.H.size→yE M'.H b=yE M.H b
theorem vY5 {H b}(h:¬b<H.size):yE H b=0:=by
 unfold yE;simp_all
theorem vMi {M M'}(x:yV M M') b:yE M.H b≤yE M'.H b:=by
 by_cases h:b<M.H.size
 ·rw[x.bsz b h];omega
 ·rw[vY5 h];omega
theorem jJ.ext {M M'}(x:yV M M'){C C'}(le:C.le C'){lo n v}(h:jJ M.H C lo n v):jJ M'.H C' lo n v:=by
 obtain⟨A,c,rfl,h⟩:=h;refine⟨A,c,rfl,?_⟩;rw[le.blk];cases hb:C.blk with
 |none=>simp_all
 |some B=>
  rw[hb] at h;obtain⟨h0,a,h1,h2,h3⟩:=h;exact⟨h0,a,h1,by rw[le.sz];exact h2,by rw[le.sz];exact Nat.le_trans h3 (vMi x B)⟩
theorem mX.ext {M M'}(x:yV M M'){rb n v}(h:mX M.H rb n v):mX M'.H rb n v:=by
 cases rb with
 |none=>exact h
 |some B=>
  obtain⟨a,c,h1,h2,h3,h4⟩:=h;exact⟨a,c,h1,h2,h3,Nat.le_trans h4 (vMi x B)⟩
theorem qA.ext {M M'}(x:yV M M'){c v}(h:qA M c v):qA M' c v:=by
 cases c with
 |fsl sh t xs=>
  cases sh with
  |true=>exact vF x.G x.sameG _ _ _ _ (fun _ _=>rfl) h
  |false=>exact vF x.F x.same _ _ _ _ (fun _ _=>rfl) h
 |nfl sh t xs=>
  cases sh with
  |true=>exact⟨h.1,vF x.G x.sameG _ _ _ _ (by simp) h.2⟩
  |false=>exact⟨h.1,vF x.F x.same _ _ _ _ (by simp) h.2⟩
 |osl id r=>
  obtain⟨C,hC,h⟩:=h;obtain⟨C',aF,le⟩:=x.κ id C hC;refine⟨C',aF,?_⟩;cases r with
  |none=>rw[le.len];exact jJ.ext x le h
  |some p=>exact⟨by rw[le.len];omega,jJ.ext x le h.2.1,by unfold UU;rw[le.len];exact h.2.2⟩
 |bsl id off n=>
  obtain⟨C,B,hC,hB,h⟩:=h;obtain⟨C',aF,le⟩:=x.κ id C hC;exact⟨C',B,aF,le.blk.trans hB,h⟩
 |ptr id off=>
  obtain⟨C,B,hC,hB,h⟩:=h;obtain⟨C',aF,le⟩:=x.κ id C hC;exact⟨C',B,aF,le.blk.trans hB,h⟩
 |eptr id i off=>
  obtain⟨C,B,hC,hB,hi,h⟩:=h;obtain⟨C',aF,le⟩:=x.κ id C hC;exact⟨C',B,aF,le.blk.trans hB,by rw[le.len];exact hi,by rw[le.sz];exact h⟩
 |fptr sh t y off=>
  obtain⟨B,o,h1,h2,h3⟩:=h;cases sh with
  |true=>exact⟨B,o,h1,x.G B h2,vF x.G x.sameG _ _ _ _ (fun j _=>UT (x.sameG B h2) _) h3⟩
  |false=>exact⟨B,o,h1,x.F B h2,vF x.F x.same _ _ _ _ (fun j _=>UT (x.same B h2) _) h3⟩
 |mrow id i ver=>
  obtain⟨C,hC,h1,hle,h⟩:=h;obtain⟨C',aF,le⟩:=x.κ id C hC;have:=le.ver;refine⟨C',aF,h1,by omega,fun e=>?_⟩;obtain⟨rb,rl,h2,h3⟩:=h (by omega);exact⟨rb,rl,by rw[le.rows (by omega)];exact h2,mX.ext x h3⟩
 |mptr id i=>
  obtain⟨C,B,hC,hB,hi,h⟩:=h;obtain⟨C',aF,le⟩:=x.κ id C hC;exact⟨C',B,aF,le.blk.trans hB,by rw[le.len];exact hi,h⟩
 |meptr id i j ver=>
  obtain⟨C,hC,h1,hle,h⟩:=h;obtain⟨C',aF,le⟩:=x.κ id C hC;have:=le.ver;refine⟨C',aF,h1,by omega,fun e=>?_⟩;obtain⟨B,rl,h2,h3⟩:=h (by omega);exact⟨B,rl,by rw[le.rows (by omega)];exact h2,h3⟩
 |fn f cap=>
  obtain⟨cv,h1,h2⟩:=h;refine⟨cv,h1,h2.mono fun id u ⟨C,B,hC,hB,hu⟩=>?_⟩;obtain⟨C',aF,le⟩:=x.κ id C hC;exact⟨C',B,aF,le.blk.trans hB,hu⟩
 |map id=>
  obtain⟨C,B,hC,hB,h⟩:=h;obtain⟨C',aF,le⟩:=x.κ id C hC;exact⟨C',B,aF,le.blk.trans hB,h⟩
 |_=>exact h
theorem xj.ext {M M'}(x:yV M M'){p v}(h:xj M p v):xj M' p v:=by
 obtain⟨b,cs⟩:=p;cases b with
 |true=>
  obtain⟨vs,h1,h2⟩:=h;exact⟨vs,h1,h2.mono fun _ _ hc=>hc.ext x⟩
 |false=>
  cases cs with
  |nil=>exact h
  |cons c cs=>cases cs with
   |nil=>exact qA.ext (c:=c) x h
   |cons _ _=>exact h
theorem zX.ext {M M'}(x:yV M M'){a v}(h:zX M a v):zX M' a v:=by
 cases a with
 |undef=>trivial
 |skp=>exact h
 |c c=>exact qA.ext (c:=c) x h
 |agg cs=>
  obtain⟨vs,h1,h2⟩:=h;exact⟨vs,h1,h2.mono fun _ _ hc=>hc.ext x⟩
 |tup xs=>
  obtain⟨vs,h1,h2⟩:=h;exact⟨vs,h1,h2.mono fun _ _ hc=>hc.ext x⟩
theorem vC.ext {M M'}(x:yV M M'){o C}(hb:o.owned=true→∀b∈C.fp,M'.H[b]? =M.H[b]?)(h:vC M o C):vC M' o C:=by
 cases o with
 |box own cells=>
  obtain⟨B,vals,e,h1,h2,h3,h4,h5⟩:=h;have hs:M'.H[B]? =M.H[B]? :=by
   cases own with
   |true=>exact hb rfl B (by simp[qE.fp,h1])
   |false=>exact x.sameG B (h5 rfl)
  exact⟨B,vals,e,h1,h2,by simp_all,h4.mono fun _ _ hc=>hc.ext x,fun h=>x.G B (h5 h)⟩
 |robox cells=>
  obtain⟨B,vals,e,h1,h2,h3,h4,h5⟩:=h;exact⟨B,vals,e,h1,h2,by rw[x.same B h5];exact h3,h4.mono fun _ _ hc=>hc.ext x,x.F B h5⟩
 |arr own t xs=>
  obtain⟨h1,h2,h3,h4⟩:=h;refine⟨h1,h2,h3,?_⟩;cases hB:C.blk with
  |none=>simp_all
  |some B=>
   rw[hB] at h4;obtain⟨vals,e,h5,h6,h7,h8⟩:=h4;have hs:M'.H[B]? =M.H[B]? :=by
    cases own with
    |true=>exact hb rfl B (by simp[qE.fp,hB])
    |false=>exact x.sameG B (h6 rfl)
   exact⟨vals,e,by simp_all,fun h=>x.G B (h6 h),h7,fun i hi=>vF x.G x.sameG _ _ _ _ (by simp) (h8 i hi)⟩
 |mat ver xs=>
  obtain⟨h1,h2,h3,h4,h5,h6⟩:=h;refine⟨h1,h2,h3,h4,h5,?_⟩;cases hB:C.blk with
  |none=>rw[hB] at h6;exact h6
  |some B=>
   rw[hB] at h6;obtain⟨vals,e,h7,h8,h9⟩:=h6;refine⟨vals,e,by rw[hb rfl B (by simp[qE.fp,hB])];exact h7,h8,fun i hi=>?_⟩;obtain⟨rb,v,k1,k2,k3,k4⟩:=h9 i hi;refine⟨rb,v,k1,k2,k3.ext x,fun R hR=>?_⟩;obtain⟨rv,er,k5,k6⟩:=k4 R hR;refine⟨rv,er,?_,k6⟩;rw[hb rfl R ?_]
   ·exact k5
   ·simp[qE.fp];exact by grind
 |pmat ver xs n=>
  obtain⟨h1,h2,h3,h4,h5,h0,h6⟩:=h;refine⟨h1,h2,h3,h4,h5,h0,?_⟩;cases hB:C.blk with
  |none=>simp_all
  |some B=>
   rw[hB] at h6;obtain⟨vals,e,h7,h8,h9⟩:=h6;refine⟨vals,e,by rw[hb rfl B (by simp[qE.fp,hB])];exact h7,h8,fun i hi=>?_⟩;obtain⟨rb,v,k1,k2,k3,k4⟩:=h9 i hi;refine⟨rb,v,k1,k2,k3.ext x,fun R hR=>?_⟩;obtain⟨rv,er,k5,k6⟩:=k4 R hR;refine⟨rv,er,?_,k6⟩;rw[hb rfl R ?_]
   ·exact k5
   ·simp only[qE.fp];grind
 |imap df=>
  obtain⟨B,es,ck,h1,h2,h3,h4,h5⟩:=h;exact⟨B,es,ck,h1,h2,by rw[hb rfl B (by simp[qE.fp,h1])];exact h3,h4,h5⟩
 |gone=>trivial
structure yT (M M':zN):Prop where
 ext:yV M M'
 size:M.H.size≤M'.H.size
 frame:∀b,b<M.H.size→¬qU M b→M'.H[b]? =M.H[b]?
 own:∀b,qU M' b→b<M.H.size→qU M b
 Gb:∀b,M'.G b→b<M.H.size→M.G b∨qU M b
 Fb:∀b,M'.F b→b<M.H.size→M.F b∨qU M b
theorem yV.refl M:yV M M:=⟨fun _ C h=>⟨C,h,C.le_refl⟩,by simp,by simp,by simp,by simp,by simp⟩
theorem yT.refl M:yT M M:=⟨yV.refl M,by simp,by simp,by grind,by grind,by grind⟩
theorem yV.trans {M M' mY}(hs:M.H.size≤M'.H.size)(x:yV M M')(y:yV M' mY):yV M mY where
 κ id C h:=by
  obtain⟨C',h',le⟩:=x.κ id C h;obtain⟨C'',h'',le'⟩:=y.κ id C' h';exact⟨C'',h'',qE.le_trans le le'⟩
 F b h:=y.F b (x.F b h)
 G b h:=y.G b (x.G b h)
 same b h:=(y.same b (x.F b h)).trans (x.same b h)
 sameG b h:=(y.sameG b (x.G b h)).trans (x.sameG b h)
 bsz b h:=(y.bsz b (by omega)).trans (x.bsz b h)
theorem yT.trans {M M' mY}(x:yT M M')(y:yT M' mY):yT M mY where
 ext:=x.ext.trans x.size y.ext
 size:=Nat.le_trans x.size y.size
 frame b h hn:=by
  have:=x.size;rw[y.frame b (by omega) fun ho=>hn (x.own b ho h),x.frame b h hn]
 own b ho h:=x.own b (y.own b ho (by have:=x.size;omega)) h
 Gb b hg h:=by
  rcases y.Gb b hg (by have:=x.size;omega) with k|k
  ·exact x.Gb b k h
  ·exact .inr (x.own b k h)
 Fb b hg h:=by
  rcases y.Fb b hg (by have:=x.size;omega) with k|k
  ·exact x.Fb b k h
  ·exact .inr (x.own b k h)
theorem Ok.build {M M'}(ok:Ok M)(x:yV M M')(T:Nat→Prop)
  (hh:∀id,¬T id→M'.h id=M.h id) (hκ:∀id,¬T id→M'.κ id=M.κ id)
  (keep:∀id o C,¬T id→M.h id=some o→o.owned=true→M.κ id=some C→∀b∈C.fp,M'.H[b]? =M.H[b]?)
  (ajs:∀id o C,¬T id→M.h id=some o→o.owned=true→M.κ id=some C→∀b∈C.fp,¬M'.F b)
  (size:M.H.size≤M'.H.size)
  (obj:∀id o,T id→M'.h id=some o→∃C,M'.κ id=some C∧vC M' o C)
  (non:∀id,T id→M'.h id=none→M'.κ id=none)
  (disj:∀id o C b,T id→M'.h id=some o→o.owned=true→M'.κ id=some C→b∈C.fp→
   (∀j oj Cj,j≠id→M'.h j=some oj→oj.owned=true→M'.κ j=some Cj→b∉Cj.fp)∧¬M'.F b∧b<M'.H.size)
  (GF:∀b,M'.G b→M'.F b) (Flt:∀b,M'.F b→b<M'.H.size):Ok M' where
 obj id o h:=by
  by_cases hT:T id
  ·exact obj id o hT h
  ·rw[hh id hT] at h;obtain⟨C,hC,hO⟩:=ok.obj id o h;exact⟨C,by rw[hκ id hT];exact hC,hO.ext x fun ho=>keep id o C hT h ho hC⟩
 non id h:=by
  by_cases hT:T id
  ·exact non id hT h
  ·rw[hκ id hT];exact ok.non id (by rw[←hh id hT];exact h)
 disj i j oi oj Ci Cj b mZ hi hj hoi hoj hCi eM JC hbj:=by
  by_cases hTi:T i
  ·grind
  ·by_cases hTj:T j
   ·grind
   ·rw[hh i hTi] at hi;rw[hh j hTj] at hj;rw[hκ i hTi] at hCi;rw[hκ j hTj] at eM;exact ok.disj i j oi oj Ci Cj b mZ hi hj hoi hoj hCi eM JC hbj
 own b hb:=by
  obtain⟨id,o,C,h,ho,hC,hb⟩:=hb;by_cases hT:T id
  ·exact(disj id o C b hT h ho hC hb).2
  ·rw[hh id hT] at h;rw[hκ id hT] at hC;have:=ok.own b ⟨id,o,C,h,ho,hC,hb⟩;grind
 GF:=GF
 Flt:=Flt
def κset (κ:Nat→Option qE)(id:Nat)(C:qE):Nat→Option qE:=fun n=>if n=id then some C else κ n
theorem κset_same κ id C:κset κ id C id=some C:=by simp[κset]
theorem κset_ne κ {id n} C (h:n≠id):κset κ id C n=κ n:=by simp[κset,h]
theorem yW h id o:yP h id o id=some o:=by simp[yP]
theorem yZ h {id n} o (hn:n≠id):yP h id o n=h n:=by
 have:Nat.beq n id=false:=by
  cases hb:Nat.beq n id with
  |true=>simp_all
  |false=>rfl
 simp[yP,this]
theorem pQ {H:Array Go.Obj}{o b}(h:b<H.size):(H.push o)[b]? =H[b]? :=by
 grind
theorem Bd {H:Array Go.Obj}{o}:(H.push o)[H.size]? =some o:=by simp
def zN.new (M:zN)(id:Nat)(o:Obj)(C:qE)(ob:Go.Obj):zN:={M with κ:=κset M.κ id C,h:=yP M.h id o,H:=M.H.push ob}
theorem zN.new_ext {M}(ok:Ok M){id}(an:M.h id=none) o C ob:yV M (M.new id o C ob) where
 κ n D h:=by
  have:n≠id:=fun e=>by rw[e,ok.non id an] at h;cases h
  exact⟨D,by simp[zN.new];rw[κset_ne _ _ this];exact h,D.le_refl⟩
 F _ h:=h
 G _ h:=h
 same b h:=pQ (ok.Flt b h)
 sameG b h:=pQ (ok.Flt b (ok.GF b h))
 bsz b h:=D6 (pQ h)
theorem zN.new_ok {M}(ok:Ok M){id}(an:M.h id=none) o C ob (hC:∀b∈C.fp,b=M.H.size)
  (hO:vC (M.new id o C ob) o C):Ok (M.new id o C ob)∧yT M (M.new id o C ob):=by
 have x:=zN.new_ext ok an o C ob;have dH:(M.new id o C ob).H.size=M.H.size+1:=by simp[zN.new]
 have tV:∀b,qU (M.new id o C ob) b→b=M.H.size∨qU M b:=by
  rintro b ⟨n,q,D,h1,h2,h3,h4⟩
  by_cases e:n=id
  ·subst e;simp[zN.new,κset_same] at h1 h3;grind
  ·simp[zN.new] at h1 h3;rw[yZ _ _ e] at h1;rw[κset_ne _ _ e] at h3;exact .inr ⟨n,q,D,h1,h2,h3,h4⟩
 refine⟨ok.build x (· =id) (fun n hn=>yZ _ _ hn) (fun n hn=>κset_ne _ _ hn) ?_ ?_ (by omega) ?_ ?_ ?_ ok.GF ?_,x,by omega,?_,?_,?_,?_⟩
 ·intro n q D hn h1 h2 h3 b hb;exact pQ (ok.own b ⟨n,q,D,h1,h2,h3,hb⟩).2
 ·intro n q D hn h1 h2 h3 b hb;exact(ok.own b ⟨n,q,D,h1,h2,h3,hb⟩).1
 ·rintro n q rfl h1
  simp[zN.new,yW] at h1;subst h1;exact⟨C,κset_same _ _ _,hO⟩
 ·rintro n rfl h1
  simp only[zN.new,yW] at h1;cases h1
 ·rintro n q D b rfl h1 h2 h3 hb
  simp[zN.new,κset_same] at h3;subst h3;have eb:=hC b hb;refine⟨fun j oj Cj hj k1 k2 k3 k4=>?_,fun hF=>?_,by omega⟩
  ·simp[zN.new] at k1 k3;rw[yZ _ _ hj] at k1;rw[κset_ne _ _ hj] at k3;have:=(ok.own b ⟨j,oj,Cj,k1,k2,k3,k4⟩).2;omega
  ·have:=ok.Flt b hF;omega
 ·intro b hb;have:=ok.Flt b hb;omega
 ·intro b hb _;exact pQ hb
 ·grind
 ·exact fun b h _=>.inl h
 ·exact fun b h _=>.inl h
def zN.write (M:zN)(id:Nat)(o:Obj)(C:qE)(H:Array Go.Obj):zN:={M with κ:=κset M.κ id C,h:=yP M.h id o,H:=H}
theorem zN.write_ext {M}(ok:Ok M){id o C C' H'}(an:M.h id=some o)(aN:o.owned=true)(hC:M.κ id=some C)
    (hle:C.le C') (hH:∀b,b∉C.fp→H'[b]? =M.H[b]?) (cR:∀b,b<M.H.size→yE H' b=yE M.H b) o':yV M (M.write id o' C' H'):=
  have xk:∀b,M.F b→b∉C.fp:=fun b hF hb=>(ok.own b ⟨id,o,C,an,aN,hC,hb⟩).1 hF
  { κ:=fun n D h=>by
      by_cases e:n=id
      · subst e;rw[hC] at h;cases h;exact⟨C',κset_same _ _ _,hle⟩
      · exact⟨D,by simp[zN.write];rw[κset_ne _ _ e];exact h,D.le_refl⟩
    F:=fun _ h=>h
    G:=fun _ h=>h
    same:=fun b h=>hH b (xk b h)
    sameG:=fun b h=>hH b (xk b (ok.GF b h))
    bsz:=cR}
theorem zN.write_ok {M}(ok:Ok M){id o o' C C' H'}(an:M.h id=some o)(aN:o.owned=true)(hC:M.κ id=some C)
  (hle:C.le C') (sg:∀b∈C'.fp,b∈C.fp) (dH:H'.size=M.H.size) (hH:∀b,b∉C.fp→H'[b]? =M.H[b]?) (cR:∀b,b<M.H.size→yE H' b=yE M.H b)
  (hO:vC (M.write id o' C' H') o' C'):Ok (M.write id o' C' H')∧yT M (M.write id o' C' H'):=by
 have x:=zN.write_ext ok an aN hC hle hH cR o';have tV:∀b,qU (M.write id o' C' H') b→qU M b:=by
  rintro b ⟨n,q,D,h1,h2,h3,h4⟩
  by_cases e:n=id
  ·subst e;simp[zN.write,κset_same] at h1 h3;subst h3;exact⟨n,o,C,an,aN,hC,sg b h4⟩
  ·simp[zN.write] at h1 h3;rw[yZ _ _ e] at h1;rw[κset_ne _ _ e] at h3;exact⟨n,q,D,h1,h2,h3,h4⟩
 refine⟨ok.build x (· =id) (fun n hn=>yZ _ _ hn) (fun n hn=>κset_ne _ _ hn) ?_ ?_ (by simp[zN.write];omega) ?_ ?_ ?_ ok.GF ?_,x,by simp[zN.write];omega,?_,?_,?_,?_⟩
 ·intro n q D hn h1 h2 h3 b hb;exact hH b fun hc=>ok.disj n id q o D C b hn h1 an h2 aN h3 hC hb hc
 ·intro n q D hn h1 h2 h3 b hb;exact(ok.own b ⟨n,q,D,h1,h2,h3,hb⟩).1
 ·rintro n q rfl h1
  simp[zN.write,yW] at h1;subst h1;exact⟨C',κset_same _ _ _,hO⟩
 ·rintro n rfl h1
  simp only[zN.write,yW] at h1;cases h1
 ·rintro n q D b rfl h1 h2 h3 hb
  simp[zN.write,κset_same] at h3;subst h3;have bg:=sg b hb;have:=ok.own b ⟨n,o,C,an,aN,hC,bg⟩;refine⟨fun j oj Cj hj k1 k2 k3 k4=>?_,this.1,by simp[zN.write];omega⟩;simp[zN.write] at k1 k3;rw[yZ _ _ hj] at k1;rw[κset_ne _ _ hj] at k3;exact ok.disj j n oj o Cj C b hj k1 an k2 aN k3 hC k4 bg
 ·intro b hb;have:=ok.Flt b hb;simp[zN.write];omega
 ·intro b hb hn;exact hH b fun hc=>hn ⟨id,o,C,an,aN,hC,hc⟩
 ·simp_all
 ·exact fun b h _=>.inl h
 ·exact fun b h _=>.inl h
def zN.freeze (M:zN)(id:Nat)(o:Obj)(C:qE):zN:={M with h:=yP M.h id o,F:=fun b=>M.F b∨b∈C.fp,G:=fun b=>M.G b∨b∈C.fp}
theorem zN.freeze_ok {M}(ok:Ok M){id o o' C}(an:M.h id=some o)(aN:o.owned=true)(hC:M.κ id=some C)
  (lZ:o'.owned=false) (hO:vC (M.freeze id o' C) o' C):Ok (M.freeze id o' C)∧yT M (M.freeze id o' C):=by
 have x:yV M (M.freeze id o' C):=⟨fun _ C h=>⟨C,h,C.le_refl⟩,fun _ h=>.inl h,fun _ h=>.inl h,fun _ _=>rfl,fun _ _=>rfl,fun _ _=>rfl⟩;have JD:∀b∈C.fp,qU M b:=fun b hb=>⟨id,o,C,an,aN,hC,hb⟩
 have tV:∀b,qU (M.freeze id o' C) b→qU M b:=by
  rintro b ⟨n,q,D,h1,h2,h3,h4⟩
  by_cases e:n=id
  ·subst e;simp[zN.freeze,yW] at h1;simp_all
  ·simp[zN.freeze] at h1;rw[yZ _ _ e] at h1;exact⟨n,q,D,h1,h2,h3,h4⟩
 refine⟨ok.build x (· =id) (fun n hn=>yZ _ _ hn) (fun n _=>rfl) (fun _ _ _ _ _ _ _ _ _=>rfl) ?_ (Nat.le_refl _) ?_ ?_ ?_ ?_ ?_,x,Nat.le_refl _,fun _ _ _=>rfl,by grind,?_,?_⟩
 ·rintro n q D hn h1 h2 h3 b hb (hF|hF)
  ·exact(ok.own b ⟨n,q,D,h1,h2,h3,hb⟩).1 hF
  ·exact ok.disj n id q o D C b hn h1 an h2 aN h3 hC hb hF
 ·rintro n q rfl h1
  simp[zN.freeze,yW] at h1;subst h1;exact⟨C,hC,hO⟩
 ·rintro n rfl h1
  simp only[zN.freeze,yW] at h1;cases h1
 ·rintro n q D b rfl h1 h2 h3 hb
  simp[zN.freeze,yW] at h1;simp_all
 ·rintro b (h|h)
  ·exact .inl (ok.GF b h)
  ·exact .inr h
 ·rintro b (h|h)
  ·exact ok.Flt b h
  ·exact(ok.own b (JD b h)).2
 ·rintro b (h|h) _
  all_goals simp_all
 ·rintro b (h|h) _
  all_goals simp_all
end Go.Ab
set_option linter.unusedSimpArgs false
namespace Go.Ab
def OW:List (Bool×zZ×vL)→zZ→vL→Prop
 |[],_,_=>False
 |(c,a,b)::l,v,u=>(c=true∧v=a∧u=b)∨(c=false∧OW l v u)
def yQ (s:yX)(v:zZ)(u:vL):Prop:=match s with
 |.alts l=>OW l v u
 |.call _ x f=>∃r,x=some r∧v=(f r).1∧u=(f r).2
 |.call2 _ _ x f g=>(∃r,x=some (.inl r)∧v=(f r).1∧u=(f r).2)∨(∃r,x=some (.inr r)∧v=(g r).1∧u=(g r).2)
theorem vIo {R K}{out:R}:∀{l},Uq K l=some out→∃v u,OW l v u∧K v u=some out
 |(c,a,b)::l,h=>by
  cases c with
  |true=>exact⟨a,b,.inl (by simp),h⟩
  |false=>
   obtain⟨v,u,h1,h2⟩:=vIo (l:=l) h;exact⟨v,u,.inr (by grind),h2⟩
theorem yX.elim_some {R s K}{out:R}(h:s.elim K=some out):∃v u,yQ s v u∧K v u=some out:=by
 cases s with
 |alts l=>exact vIo h
 |call X x f=>
  simp[yX.elim,Option.bind_eq_some_iff] at h;obtain⟨r,h1,h2⟩:=h;exact⟨_,_,⟨r,h1,rfl,rfl⟩,h2⟩
 |call2 X Y x f g=>
  simp[yX.elim,Option.bind_eq_some_iff] at h;obtain⟨r,h1,h2⟩:=h;cases r with
  |inl r=>exact⟨_,_,.inl ⟨r,h1,rfl,rfl⟩,h2⟩
  |inr r=>exact⟨_,_,.inr ⟨r,h1,rfl,rfl⟩,h2⟩
theorem wR {v a u}(h:yQ (.one a) v u):v=a∧u=[]:=by
 rcases h with⟨_,h1,h2⟩|⟨h,_⟩
 all_goals simp_all
theorem l9 {c v a u}(h:yQ (.when c a) v u):c=true∧v=a∧u=[]:=by
 rcases h with h|⟨_,h⟩
 ·exact h
 ·exact h.elim
theorem gT {c v a u b}(h:yQ (.alts [(c,a,b)]) v u):c=true∧v=a∧u=b:=by
 rcases h with h|⟨_,h⟩
 ·exact h
 ·exact h.elim
theorem UW {x v u}(h:yQ (.ofO x) v u):x=some v∧u=[]:=by
 cases x with
 |none=>exact h.elim
 |some a=>
  obtain⟨rfl,rfl⟩:=wR h;simp
section
variable {P:Program} (w:World)
theorem OX {t d}(h:P.underlying t=some d):∃i,P.info? t=some i:=by
 unfold Program.underlying at h;grind
theorem UX {t i}(h:P.info? t=some i):P.cellsOf t=i.size:=by simp[Program.cellsOf,h]
theorem UY {t i}(h:P.info? t=some i):P.bytesOf t=i.bytes:=by simp[Program.bytesOf,h]
theorem oT {t}(h:0<P.cellsOf t):∃i,P.info? t=some i:=by
 cases hi:P.info? t with
 |none=>simp[Program.cellsOf,hi] at h
 |some i=>simp
theorem UZ {t i}(h:P.info? t=some i):(typeInfo t).run P w=.ok i w:=by simp[typeInfo,h]
theorem iS {t i}(h:P.info? t=some i):(sizeOf t).run P w=.ok (P.cellsOf t) w:=by
 rw[UX h];simp[sizeOf,typeInfo,h]
theorem tW {t b}(h:eL P t=some b):(∃d,P.underlying t=some d)∧(isAgg t).run P w=.ok b w:=by
 unfold eL at h;cases hd:P.underlying t with
 |none=>simp_all
 |some d=>
  rw[hd] at h;cases d<;>simp at h<;>subst h<;>simp[isAgg,run_underlying hd]
theorem vNf {t cs}(h:zeroCells P t=some cs):∃i v,P.info? t=some i∧i.zero=some v∧v.cells.size=i.size∧v.cells.toList.all A4=true∧cs=v.cells.toList.map A3:=by
 unfold zeroCells at h;split at h
 ·rename_i i hi;split at h
  ·rename_i v hv;cases hb:(Nat.beq v.cells.size i.size&&v.cells.toList.all A4) with
   |false=>grind
   |true=>
    rw[hb] at h;simp_all
  ·cases h
 ·cases h
end
theorem vOj {v}(h:A4 v=true):v.one1=true:=by cases v<;>first|rfl|cases h
theorem Be {v:Value}(h:v.one1=true):v.oneCell'=true:=by cases v<;>first|rfl|cases h
theorem vEa M {v}(h:v.one1=true):qA M (A3 v) v:=by
 unfold A3;split<;>first|rfl|exact h
theorem OY M:∀{l},l.all A4=true→zO (qA M) (l.map A3) l
 |[],_=>trivial
 |v::l,h=>by
  simp only[List.all_cons,Bool.and_eq_true] at h;exact⟨vEa M (vOj h.1),OY M h.2⟩
theorem U0 M v:zX M (Ur v) v:=by
 unfold Ur;split
 ·rename_i cs;cases hb:cs.toList.all A4 with
  |false=>trivial
  |true=>exact⟨cs,rfl,OY M hb⟩
 ·trivial
 ·exact vEa M (by cases v<;>first|rfl|simp_all|simp_all)
def qM (P:Program)(s:Sem Value)(M:zN)(w:World)(v:zZ)(u:vL):Prop:=
 ∃rv w' M',s.run P w=.ok rv w'∧w'.os=w.os∧w'.tape=w.tape∧w'.output=w.output∧M'.H=w'.heap∧M'.h=qL M.h u∧Ok M'∧yT M M'∧zX M' v rv
theorem qM.pure {P s M w v rv}(ok:Ok M)(hM:M.H=w.heap)(h:s.run P w=.ok rv w)(hv:zX M v rv):qM P s M w v []:=
 ⟨rv,w,M,h,rfl,rfl,rfl,hM,rfl,ok,yT.refl M,hv⟩
theorem D8 sh:∀t x,(cellsOf sh t x).length=t.size
 |.int _,_|.bool,_|.sl _,_=>rfl
 |.pair a b,p=>by simp[cellsOf,D8 sh a,D8 sh b,Ty.size]
theorem OZ M sh:∀t x rd,qH M.H (bif sh then M.G else M.F) t x rd→
  ∀j h,∃v,rd j=some v∧qA M (cellsOf sh t x)[j] v
 |.int k,n,rd,h,j,hj
 |.bool,n,rd,h,j,hj=>by
  simp[cellsOf] at hj;obtain rfl:j=0:=by omega
  exact⟨_,h,rfl⟩
 |.sl t,xs,rd,h,j,hj=>by
  simp[cellsOf] at hj;obtain rfl:j=0:=by omega
  obtain⟨A,n,c,h1,h2⟩:=h;refine⟨_,h1,?_⟩;show qH _ _ _ _ _;simp[qH];grind
 |.pair a b,p,rd,h,j,hj=>by
  simp[cellsOf,D8] at hj;by_cases aS:j<(cellsOf sh a p.1).length
  ·obtain⟨v,h1,h2⟩:=OZ M sh a p.1 rd h.1 j aS;refine⟨v,h1,?_⟩;simp[cellsOf,List.getElem_append_left aS];exact h2
  ·have kH:=aS;rw[D8] at kH;obtain⟨v,h1,h2⟩:=OZ M sh b p.2 _ h.2 (j-a.size) (by rw[D8];omega);refine⟨v,by grind,?_⟩;have oU:(cellsOf sh a p.1).length≤j:=by omega
   simp[cellsOf,List.getElem_append_right oU];simp[D8];exact h2
theorem JE {cells vs off n}(h:mU cells off n=some vs):off+n≤cells.length∧vs=(cells.drop off).take n∧vs.length=n:=by
 unfold mU at h;cases hb:Nat.ble (off+n) cells.length with
 |false=>simp_all
 |true=>
  have:=Nat.le_of_ble_eq_true hb;grind
theorem U1 {agg vs v}(h:rZ agg vs=some v):(agg=some true∧v=.agg vs)∨(agg=some false∧∃c,vs=[c]∧v=.c c):=by
 unfold rZ at h;grind
theorem yZ8 {P M w}(ok:Ok M)(hM:M.H=w.heap){t B o cells vs off v}
  (ma:∀j h,∃u,yY M.H B (o+j)=some u∧qA M cells[j] u)
  (eZ:mU cells off (P.cellsOf t)=some vs) (hp:rZ (eL P t) vs=some v):
  ∃rv,(loadVar t ⟨B,o+off,none⟩).run P w=.ok rv w∧zX M v rv:=by
 obtain⟨h1,h2,h3⟩:=JE eZ;have dm:∀j,j<vs.length→∃u,w.cell? ⟨B,o+off+j,none⟩=some u∧∃c,vs[j]? =some c∧qA M c u:=by
  intro j hj;obtain⟨u,k1,k2⟩:=ma (off+j) (by omega);refine⟨u,by rw[tU,←hM,Nat.add_assoc];exact k1,cells[off+j],?_,k2⟩;grind
 rcases U1 hp with⟨dY,rfl⟩|⟨dY,c,rfl,rfl⟩
 ·obtain⟨⟨d,hd⟩,hr⟩:=tW (P:=P) w dY;obtain⟨i,hi⟩:=OX hd;have hf:∃us:List Value,us.length=vs.length∧∀j (h:j<vs.length),∃u c,us[j]? =some u∧w.cell? ⟨B,o+off+j,none⟩=some u∧vs[j]? =some c∧qA M c u:=by
   refine⟨(List.range vs.length).map fun j=>(w.cell? ⟨B,o+off+j,none⟩).getD undef,by simp,fun j h=>?_⟩;grind
  obtain⟨us,hl,oV⟩:=hf;have nc := run_loadCells_list (P := P) w ⟨B, o + off, none⟩ us (fun j u hu=>by
   have hj:j<us.length:=by
    grind
   obtain⟨u',c,k1,k2,_⟩:=oV j (by omega);rw[hu] at k1;cases k1;rw[Addr.add_lit];exact k2)
  refine⟨.agg us.toArray,?_,?_⟩
  ·rw[hl,h3] at nc;simp[loadVar,hr,iS w hi,nc]
  ·refine⟨us.toArray,rfl,zO.of_get (by simp_all) fun j k1 k2=>?_⟩;grind
 ·obtain⟨⟨d,hd⟩,hr⟩:=tW (P:=P) w dY;obtain⟨u,k1,c',k2,k3⟩:=dm 0 (by simp);simp at k2;subst k2;refine⟨u,?_,k3⟩;simp at k1;simp[loadVar,hr,k1]
theorem O0 {P M w}(ok:Ok M)(hM:M.H=w.heap){t B o cells vs off v}
  (ma:∀j h,∃u,yY M.H B (o+j)=some u∧qA M cells[j] u)
  (eZ:mU cells off (P.cellsOf t)=some vs) (hp:rZ (eL P t) vs=some v):
  qM P (loadVar t ⟨B,o+off,none⟩) M w v []:=by
 obtain⟨rv,h1,h2⟩:=yZ8 (w:=w) ok hM ma eZ hp;exact .pure ok hM h1 h2
theorem kI P w a:(Instr.sureAddr (.pointer (some a))).run P w=.ok a w:=rfl
theorem yUy {M own cells C}(h:vC M (.box own cells) C):∃B,C.blk=some B∧∀j h,∃u,yY M.H B (0+j)=some u∧qA M cells[j] u:=by
 obtain⟨B,vals,e,h1,h2,h3,h4,h5⟩:=h;refine⟨B,h1,fun j hj=>?_⟩;have hl:=h4.length;have nf:j<vals.size:=by simp_all
 refine⟨vals[j],?_,?_⟩
 ·simp[yY,h3]
 ·have:=h4.get j hj (by omega);simp_all
theorem U2 {M cells C}(h:vC M (.robox cells) C):∃B,C.blk=some B∧∀j h,∃u,yY M.H B (0+j)=some u∧qA M cells[j] u:=by
 obtain⟨B,vals,e,h1,h2,h3,h4,h5⟩:=h;refine⟨B,h1,fun j hj=>?_⟩;have hl:=h4.length;have nf:j<vals.size:=by simp_all
 refine⟨vals[j],?_,?_⟩
 ·simp[yY,h3]
 ·have:=h4.get j hj (by omega);simp_all
theorem vR5 {M own t xs C}(h:vC M (.arr own t xs) C){i}(hi:i<xs.length):∃B,C.blk=some B∧
  ∀j h,∃u,yY M.H B (i*C.sz+j)=some u∧qA M (cellsOf true t (xs.getD i t.dflt))[j] u:=by
 obtain⟨h1,h2,h3,h4⟩:=h;cases hB:C.blk with
 |none=>simp_all
 |some B=>
  rw[hB] at h4;obtain⟨vals,e,h5,h6,h7,h8⟩:=h4;refine⟨B,rfl,fun j hj=>?_⟩;have:=OZ M true t xs[i] _ (h8 i hi) j (by simp_all);obtain⟨v,k1,k2⟩:=this;refine⟨v,?_,?_⟩
  ·rw[h2];simp[yY,h5];exact k1
  simp_all
theorem O1 {P t cells off v u}(h:yQ (Ju P t cells off) v u):
  ∃vs,mU cells off (P.cellsOf t)=some vs∧rZ (eL P t) vs=some v∧u=[]:=by
 obtain⟨h',rfl⟩:=UW h;rw[Option.bind_eq_some_iff] at h';simp_all
theorem mX.one {H rb n v}(h:mX H rb n v):v.one1=true:=by
 cases rb with
 |none=>obtain⟨rfl,_⟩:=h;rfl
 |some R=>obtain⟨a,c,rfl,_⟩:=h;rfl
theorem D9 {M ver xs C}(h:vC M (.mat ver xs) C){i} hi:∃B rb v,C.blk=some B∧C.ver=ver∧
  C.rows[i]? =some (rb,xs[i].length)∧yY M.H B i=some v∧mX M.H rb xs[i].length v∧(∀R,rb=some R→∀j (h':j<xs[i].length),yY M.H R j=some (.int .i64 xs[i][j])):=by
 obtain⟨q1,q2,q3,q4,q5,q6⟩:=h;cases hB:C.blk with
 |none=>grind
 |some B=>
  rw[hB] at q6;obtain⟨vals,e,q7,q8,q9⟩:=q6;obtain⟨rb,v,k1,k2,k3,k4⟩:=q9 i hi;refine⟨B,rb,v,rfl,q1,k1,by simp[yY,q7];exact k2,k3,fun R hR j hj=>?_⟩;obtain⟨rv,er,k5,k6⟩:=k4 R hR;simp[yY];simp_all
theorem vTj {P M w}(ok:Ok M)(hM:M.H=w.heap){t a v u ra}(ha:zX M a ra)
  (h:yQ (DK P M.h t a) v u):qM P (Instr.loadAt t ra) M w v u:=by
 unfold DK at h;split at h
 ·split at h
  ·rename_i own cells an;obtain⟨vs,h1,h2,rfl⟩:=O1 h;obtain⟨C,B,hC,hB,rfl⟩:=ha;obtain⟨C',aF,hO⟩:=ok.obj _ _ an;rw[hC] at aF;cases aF;obtain⟨B',fx,aH⟩:=yUy hO;rw[hB] at fx;cases fx;have:=O0 (P:=P) ok hM (t:=t) (o:=0) aH h1 h2
   simpa[Instr.loadAt,qM,kI] using this
  ·rename_i cells an;obtain⟨vs,h1,h2,rfl⟩:=O1 h;obtain⟨C,B,hC,hB,rfl⟩:=ha;obtain⟨C',aF,hO⟩:=ok.obj _ _ an;rw[hC] at aF;cases aF;obtain⟨B',fx,aH⟩:=U2 hO;rw[hB] at fx;cases fx;have:=O0 (P:=P) ok hM (t:=t) (o:=0) aH h1 h2
   simpa[Instr.loadAt,qM,kI] using this
  ·exact h.elim
 ·rename_i sh ty x off;obtain⟨vs,h1,h2,rfl⟩:=O1 h;obtain⟨B,o,rfl,hB,hE⟩:=ha;have:=O0 (P:=P) ok hM (t:=t) (B:=B) (o:=o) (fun j hj=>OZ M sh ty x _ hE j hj) h1 h2
  simpa[Instr.loadAt,qM,kI] using this
 ·rename_i id i off;split at h
  ·rename_i own ty xs an;obtain⟨vs,h1,h2,rfl⟩:=O1 h;obtain⟨C,B,hC,hB,hi,rfl⟩:=ha;obtain⟨C',aF,hO⟩:=ok.obj _ _ an;rw[hC] at aF;cases aF;obtain⟨B',fx,aH⟩:=vR5 hO (i:=i) (by rw[←hO.1];exact hi);rw[hB] at fx;cases fx;have:=O0 (P:=P) ok hM (t:=t) aH h1 h2
   simpa[Instr.loadAt,qM,kI] using this
  ·exact h.elim
 ·rename_i id i;split at h
  ·rename_i ver xs an;split at h
   ·rename_i dY;obtain⟨rfl,rfl⟩:=wR h;obtain⟨C,B,hC,hB,hi,rfl⟩:=ha;obtain⟨C',aF,hO⟩:=ok.obj _ _ an;rw[hC] at aF;cases aF;obtain⟨B',rb,x,k0,kv,k1,k2,k3,k4⟩:=D9 hO (i:=i) (by rw[←hO.2.1];exact hi);rw[hB] at k0;cases k0;obtain⟨_,hr⟩:=tW (P:=P) w dY;have yY:w.cell? ⟨B,i,none⟩=some x:=by rw[tU,←hM];exact k2
    exact qM.pure ok hM (rv:=x) (by simp[Instr.loadAt,kI,loadVar,hr,yY]) ⟨C,hC,k3.one,by omega,by grind⟩
   ·exact h.elim
  ·exact h.elim
 ·rename_i id i j ver;split at h
  ·rename_i v' xs an;cases hv:Nat.beq v' ver with
   |false=>rw[hv] at h;exact h.elim
   |true=>
    rw[hv] at h;have hv:=Nat.eq_of_beq_eq_true hv;subst hv;split at h
    ·rename_i dY;obtain⟨rfl,rfl⟩:=wR h;obtain⟨C,hC,h1,hle,hm⟩:=ha;obtain⟨C',aF,hO⟩:=ok.obj _ _ an;rw[hC] at aF;cases aF;obtain⟨R,rl,k1,k2,rfl⟩:=hm hO.1;have hi:i<xs.length:=by
      rw[←hO.2.2.2.1];grind
     obtain⟨B',rb,x,q0,qv,q1,q2,q3,q4⟩:=D9 hO hi;rw[k1] at q1;cases q1;obtain⟨_,hr⟩:=tW (P:=P) w dY;have yY:w.cell? ⟨R,j,none⟩=some (.int .i64 xs[i][j]):=by rw[tU,←hM];exact by grind
     refine qM.pure ok hM (rv:=.int .i64 xs[i][j]) (by simp[Instr.loadAt,kI,loadVar,hr,yY]) ?_;show _=_;simp[List.getD,hi,k2]
    ·exact h.elim
  ·exact h.elim
 ·exact h.elim
theorem lE h:∀u v,qL h (u++v)=qL (qL h u) v
 |[],_=>rfl
 |(id,o)::u,v=>lE (yP h id o) u v
theorem U3 h id o:qL h [(id,o)]=yP h id o:=rfl
theorem Ea {h id o}(e:h id=some o):yP h id o=h:=by
 funext n;by_cases hn:n=id
 ·subst hn;rw[yW];simp_all
 ·rw[yZ _ _ hn]
theorem U4:∀vs cells off out,A5 cells off vs=some out→
  (vs=[]∨off+vs.length≤cells.length)∧out=cells.take off++vs++cells.drop (off+vs.length)
 |[],cells,off,out,h=>by
  simp[A5] at h;simp_all
 |v::vs,cells,off,out,h=>by
  unfold A5 at h;cases hb:Nat.blt off cells.length with
  |false=>simp_all
  |true=>
   rw[hb] at h;have aS:off<cells.length:=Nat.le_of_ble_eq_true hb;obtain⟨h1,h2⟩:=U4 vs (cells.set off v) (off+1) out h;refine⟨by grind,?_⟩;have e1:(cells.set off v).take (off+1)=cells.take off++[v]:=by
    rw[List.take_succ_eq_append_getElem (by simp_all),List.take_set_of_le (by simp)];simp
   have e2:(cells.set off v).drop (off+1+vs.length)=cells.drop (off+(v::vs).length):=by
    rw[List.drop_set_of_lt (by omega)];grind
   simp_all
theorem O2 {M v rv vs}(h:oQ v=some vs)(hv:zX M v rv):zO (qA M) vs rv.cells.toList:=by
 unfold oQ at h;split at h
 ·cases h;have h1:=qA.one hv;have:rv.cells=#[rv]:=by cases rv<;>first|rfl|cases h1
  rw[this];exact⟨hv,trivial⟩
 ·cases h;obtain⟨us,rfl,h⟩:=hv;exact h
 ·cases h
theorem U5 {M}:∀{vs us},zO (qA M) vs us→∀u∈us,u.one1=true
 |[],[],_,_,h=>by cases h
 |_::_,u::us,hh,x,h=>by
  cases h with
  |head=>exact hh.1.one
  |tail _ h=>exact U5 hh.2 x h
def ng (P:Program)(s:Sem Unit)(M:zN)(w:World)(u:vL):Prop:=
 ∃w' M',s.run P w=.ok () w'∧w'.os=w.os∧w'.tape=w.tape∧w'.output=w.output∧M'.H=w'.heap∧M'.h=qL M.h u∧Ok M'∧yT M M'
def vB (vals:Array Value)(off:Nat)(us:List Value):Array Value:=(vals.toList.take off++us++vals.toList.drop (off+us.length)).toArray
theorem gU {vals off us}(h:off+us.length≤vals.size):(vB vals off us).size=vals.size:=by
 simp[vB];omega
theorem dZ {vals off us}(h:off+us.length≤vals.size) j:
  (vB vals off us)[j]? =if j<off then vals[j]? else if j<off+us.length then us[j-off]? else vals[j]? :=by
 simp[vB];grind
theorem oW {w:World}{B vals new e}(h:w.heap[B]? =some (.cells vals e (0,0)))(hs:new.size=vals.size):
  (w.setRow B new).heap.size=w.heap.size∧(w.setRow B new).heap[B]? =some (.cells new e (0,0))∧(∀b,b≠B→(w.setRow B new).heap[b]? =w.heap[b]?)∧
  (∀b,yE (w.setRow B new).heap b=yE w.heap b):=by
 have h1:=setRow_heap w B vals new e (0,0) h;have h2:∀b,b≠B→(w.setRow B new).heap[b]? =w.heap[b]? :=fun b hb=>setRow_other w B b new hb
 refine⟨by simp,h1,h2,fun b=>?_⟩;by_cases hb:b=B
 ·subst hb;simp[yE,h1,h];exact hs
 ·exact D6 (h2 b hb)
theorem U6 {P w t B off vals e rv}(h:w.heap[B]? =some (.cells vals e (0,0)))
  (hn:rv.cells.size=P.cellsOf t) (h0:0<P.cellsOf t) (aM:off+rv.cells.size≤vals.size) (h1:∀u∈rv.cells.toList,u.one1=true):
  (storeVar t ⟨B,off,none⟩ rv).run P w=.ok () (w.setRow B (vB vals off rv.cells.toList)):=by
 obtain⟨i,hi⟩:=oT h0;have ka:=run_storeCells_at (P:=P) B off e rv.cells.toList 0 vals w h (by omega) (fun v hv=>Be (h1 v hv));have:¬rv.cells.size≠P.cellsOf t:=by omega
 simp only[storeVar,Sem.run_bind,iS w hi,Result.andThen_ok,this];exact ka
theorem U7 {M M'}(x:yV M M'){cells vs vals us off}(h:zO (qA M) cells vals.toList)(hv:zO (qA M) vs us)
  (aM:off+us.length≤vals.size):zO (qA M') (cells.take off++vs++cells.drop (off+vs.length)) (vB vals off us).toList:=by
 have hl:=hv.length;rw[hl];exact((h.take off).append hv|>.append (h.drop _)).mono fun _ _ hc=>hc.ext x
def jL (h0 h:Hp):Prop:=∀id,h id=h0 id∨(∃own t xs,h0 id=some (.arr own t xs)∧h id=some (.arr false t xs))∨
 (∃ver xs,h0 id=some (.mat ver xs)∧h id=some (.arr false (.sl (.int .i64)) xs))
theorem jL.refl h:jL h h:=fun _=>.inl rfl
theorem Eb {α}{xs:List α}{lo n}(h:lo+n≤xs.length):(qS xs lo n).length=n:=by
 simp[qS];omega
theorem O3 {α}{xs:List α}{lo n i} h:∃h':lo+i<xs.length,(qS xs lo n)[i]=xs[lo+i]:=by
 have:lo+i<xs.length:=by simp[qS] at h;omega
 exact⟨this,by simp[qS]⟩
theorem yV0 {H G C t xs lo n v}(dH:C.sz=t.size)(hn:lo+n≤xs.length)(h:jJ H C lo n v)
  (hx:match C.blk with
   |none=>xs=[]
   |some B=>G B∧∃vals e,H[B]? =some (.cells vals e (0,0))∧∀i h,qH H G t xs[i] (fun j=>vals[i*t.size+j]?)):
  qH H G (.sl t) (qS xs lo n) (fun _=>some v):=by
 obtain⟨A,c,rfl,h⟩:=h;cases hB:C.blk with
 |none=>
  rw[hB] at h hx;obtain⟨rfl,rfl,rfl⟩:=h;exact⟨none,0,0,rfl,by rfl,by simp,.inl ⟨by rfl,by simp⟩⟩
 |some B=>
  rw[hB] at h hx;obtain⟨hc,a,rfl,ha,aM⟩:=h;obtain⟨hG,vals,e,hv,hE⟩:=hx;have hl:=Eb hn;refine⟨_,n,c,rfl,hl.symm,hc,?_⟩;by_cases h0:n=0
  ·simp_all
  ·refine .inr ⟨B,a,rfl,hG,fun i hi=>?_⟩;obtain⟨bI,e1⟩:=O3 hi;have si:a=lo*C.sz:=by omega
   have e2:(fun j=>yY H B (a+i*t.size+j))=fun j=>vals[(lo+i)*t.size+j]? :=by
    rw[si,dH,←Nat.add_mul];simp[yY,hv]
   simp_all
theorem vCk {α}(xs:List α):qS xs 0 xs.length=xs:=by simp[qS]
theorem Bf {M t xs C id r v}(hC:M.κ id=some C)(hO:vC M (.arr false t xs) C)(h:qA M (.osl id r) v):
  qH M.H M.G (.sl t) (j9 xs r) (fun _=>some v):=by
 obtain⟨h1,h2,h3,h4⟩:=hO;obtain⟨C',aF,h⟩:=h;rw[hC] at aF;cases aF;have hx:match C.blk with
   |none=>xs=[]
   |some B=>M.G B∧∃vals e,M.H[B]? =some (.cells vals e (0,0))∧∀i (h:i<xs.length),qH M.H M.G t xs[i] (fun j=>vals[i*t.size+j]?):=by
  grind
 cases r with
 |none=>
  have:=yV0 (G:=M.G) h2 (lo:=0) (n:=C.len) (by omega) h hx;rw[h1,vCk] at this;exact this
 |some p=>
  obtain⟨h5,h6,_⟩:=h;exact yV0 (G:=M.G) h2 (by omega) h6 hx
theorem vD4 {M}(ok:Ok M){id t xs}(an:M.h id=some (.arr true t xs)):
  ∃M',M'.H=M.H∧M'.h=yP M.h id (.arr false t xs)∧Ok M'∧yT M M'∧M'.κ=M.κ:=by
 obtain⟨C,hC,hO⟩:=ok.obj id _ an;have tX:vC (M.freeze id (.arr false t xs) C) (.arr false t xs) C:=by
  have x:yV M (M.freeze id (.arr false t xs) C):=⟨fun _ C h=>⟨C,h,C.le_refl⟩,fun _ h=>.inl h,fun _ h=>.inl h,fun _ _=>rfl,fun _ _=>rfl,fun _ _=>rfl⟩;obtain⟨h1,h2,h3,h4⟩:=hO.ext x fun _ _ _=>rfl
  refine⟨h1,h2,by simp,?_⟩;cases hB:C.blk with
  |none=>simp_all
  |some B=>
   rw[hB] at h4;obtain⟨vals,e,h5,h6,h7,h8⟩:=h4;exact⟨vals,e,h5,fun _=>.inr (by simp[qE.fp,hB]),h7,h8⟩
 have:=zN.freeze_ok ok an rfl hC rfl tX;exact⟨M.freeze id _ C,rfl,rfl,this.1,this.2,rfl⟩
theorem vF7 {M}(ok:Ok M){id t xs}(an:M.h id=some (.arr true t xs)):
  ∃M',M'.H=M.H∧M'.h=yP M.h id (.arr false t xs)∧Ok M'∧yT M M':=by
 obtain⟨M',h1,h2,h3,h4,_⟩:=vD4 ok an;grind
theorem vIt {M}(ok:Ok M){id ver xs}(an:M.h id=some (.mat ver xs)):
  ∃M',M'.H=M.H∧M'.h=yP M.h id (.arr false (.sl (.int .i64)) xs)∧Ok M'∧yT M M'∧M'.κ=M.κ:=by
 obtain⟨C,hC,hO⟩:=ok.obj id _ an;have tX:vC (M.freeze id (.arr false (.sl (.int .i64)) xs) C) (.arr false (.sl (.int .i64)) xs) C:=by
  obtain⟨h1,h2,h3,h4,h5,h6⟩:=hO;refine⟨h2,h3,by simp,?_⟩;cases hB:C.blk with
  |none=>rw[hB] at h6;exact h6
  |some B=>
   rw[hB] at h6;obtain⟨vals,e,h7,h8,h9⟩:=h6;refine⟨vals,e,h7,fun _=>.inr (by simp[qE.fp,hB]),by simpa[Ty.size] using h8,fun i hi=>?_⟩;obtain⟨rb,v,k1,k2,k3,k4⟩:=h9 i hi;simp only[qH,Ty.size,Nat.mul_one,Nat.add_zero];cases rb with
   |none=>
    obtain⟨rfl,hl⟩:=k3;grind
   |some R=>
    obtain⟨a,c,rfl,hc,ha,hs⟩:=k3;obtain⟨rv,er,k5,k6⟩:=k4 R rfl;by_cases cO:xs[i]=[]
    ·grind
    have nR:a=0:=by
     have:0<xs[i].length:=by grind
     omega
    subst nR;refine⟨_,_,c,k2,rfl,hc,.inr ⟨R,0,rfl,.inr ?_,fun j hj=>?_⟩⟩
    ·simp only[qE.fp,List.mem_append];grind
    ·have e1:(M.freeze id (Obj.arr false (.sl (.int .i64)) xs) C).H=M.H:=rfl;simp[e1,yY,k5,Nat.zero_add];exact k6 j hj
 have:=zN.freeze_ok ok an rfl hC rfl tX;exact⟨M.freeze id _ C,rfl,rfl,this.1,this.2,rfl⟩
theorem yT0 {M}(ok:Ok M){id ver xs}(an:M.h id=some (.mat ver xs)):
  ∃M',M'.H=M.H∧M'.h=yP M.h id (.arr false (.sl (.int .i64)) xs)∧Ok M'∧yT M M':=by
 obtain⟨M',h1,h2,h3,h4,_⟩:=vIt ok an;grind
theorem JF {M}(ok:Ok M){h0}(hf:jL h0 M.h){c c' v u}(hc:qA M c v)(h:oS h0 c=some (c',u)):
  ∃M',M'.H=M.H∧M'.h=qL M.h u∧Ok M'∧yT M M'∧qA M' c' v∧jL h0 M'.h∧(∀p∈u,p.2.owned=false):=by
 have ajF : c' = c → u = [] → _ := fun e1 e2 => (⟨M,rfl,by rw[e2];rfl,ok,yT.refl M,by simp_all,hf,by simp[e2]⟩:
  ∃M',M'.H=M.H∧M'.h=qL M.h u∧Ok M'∧yT M M'∧qA M' c' v∧jL h0 M'.h∧(∀p∈u,p.2.owned=false))
 cases c with
 |osl id r=>
  have key:∀(t:Ty) (xs:List t.den),(∀M',Ok M'→M'.h id=some (.arr false t xs)→qA M' (.osl id r) v→qA M' (.fsl true t (j9 xs r)) v):=by
   intro t xs M' gV pR mb;obtain⟨C,hC,hO⟩:=gV.obj id _ pR;exact Bf hC hO mb
  unfold oS at h;simp only at h;split at h
  ·rename_i own t xs mc;cases h;rcases hf id with e|⟨o2,t2,U8,e1,e2⟩|⟨ver,U8,e1,e2⟩
   ·rw[mc] at e;cases own with
    |true=>
     obtain⟨M',h1,h2,gV,bJ⟩:=vF7 ok e;refine⟨M',h1,h2,gV,bJ,key t xs M' gV (by rw[h2];exact yW _ _ _) (hc.ext bJ.ext),fun n=>?_,by simp[Obj.owned]⟩;by_cases hn:n=id
     ·subst hn;exact .inr (.inl ⟨true,t,xs,mc,by rw[h2];exact yW _ _ _⟩)
     ·rw[h2,yZ _ _ hn];exact hf n
    |false=>exact⟨M,rfl,(Ea e).symm,ok,yT.refl M,by grind,hf,by simp[Obj.owned]⟩
   ·rw[mc] at e1;cases e1;exact⟨M,rfl,(Ea e2).symm,ok,yT.refl M,by grind,hf,by simp[Obj.owned]⟩
   simp_all
  ·rename_i ver xs mc;split at h
   ·cases h;rcases hf id with e|⟨o2,t2,U8,e1,e2⟩|⟨ajG,U8,e1,e2⟩
    ·rw[mc] at e;obtain⟨M',h1,h2,gV,bJ⟩:=yT0 ok e;refine⟨M',h1,h2,gV,bJ,key (.sl (.int .i64)) xs M' gV (by rw[h2];exact yW _ _ _) (hc.ext bJ.ext),fun n=>?_,by simp[Obj.owned]⟩;by_cases hn:n=id
     ·subst hn;exact .inr (.inr ⟨ver,xs,mc,by rw[h2];exact yW _ _ _⟩)
     ·rw[h2,yZ _ _ hn];exact hf n
    ·simp_all
    ·rw[mc] at e1;cases e1;exact⟨M,rfl,(Ea e2).symm,ok,yT.refl M,key (.sl (.int .i64)) xs M ok e2 hc,hf,by simp[Obj.owned]⟩
   ·cases h
  ·cases h
 |mrow _ _ _=>cases h
 |_=>cases h;simp_all
theorem U9 {h0}:∀{cs aT vs u M},Ok M→jL h0 M.h→zO (qA M) cs vs→nN h0 cs=some (aT,u)→
  ∃M',M'.H=M.H∧M'.h=qL M.h u∧Ok M'∧yT M M'∧zO (qA M') aT vs∧jL h0 M'.h∧(∀p∈u,p.2.owned=false)
 |[],aT,[],u,M,ok,hf,_,h=>by cases h;exact⟨M,rfl,rfl,ok,yT.refl M,trivial,hf,by simp⟩
 |c::cs,aT,v::vs,u,M,ok,hf,hc,h=>by
  unfold nN at h;split at h
  ·rename_i c1 u1 nh sj e1 e2;cases h;obtain⟨M1,a1,a2,a3,a4,a5,a6,a7⟩:=JF ok hf hc.1 e1;obtain⟨M2,b1,b2,b3,b4,b5,b6,b7⟩:=U9 a3 a6 (hc.2.mono fun _ _ k=>k.ext a4.ext) e2;refine⟨M2,b1.trans a1,by rw[b2,a2,lE],b3,a4.trans b4,⟨a5.ext b4.ext,b5⟩,b6,fun p hp=>?_⟩;grind
  ·cases h
theorem lF {a b xs ys}(h:iu a b xs=some ys):∃e:a=b,e▸xs=ys:=by
 unfold iu at h;grind
theorem Va {a b}(h:Nat.blt a b=true):a<b:=Nat.le_of_ble_eq_true h
theorem vNn {a b}(h:Nat.blt a b=false):¬a<b:=fun hh=>by
 have:Nat.blt a b=true:=Nat.ble_eq_true_of_le hh;simp_all
theorem yI1 {k off c n}(h:Us k off c=some n):off=0∧c=.int k n:=by
 unfold Us at h;split at h
 ·rename_i j m;cases hb:gx j k with
  |false=>simp_all
  |true=>
   have:=tL hb;simp_all
 ·cases h
theorem vGj {off c n}(h:Ut off c=some n):off=0∧c=.bool n:=by
 unfold Ut at h;grind
theorem yKe {t off c xs}(h:Uu t off c=some xs):off=0∧(c=.fsl true t xs∨(c=.nsl∧xs=[])):=by
 unfold Uu at h;split at h
 ·obtain⟨e,h⟩:=lF h;grind
 all_goals simp_all
theorem vId {a b p q off c}(h:tM (.pair a b) p off c=some q):
  (off<a.size∧tM a p.1 off c=some q.1∧q.2=p.2)∨(¬off<a.size∧tM b p.2 (off-a.size) c=some q.2∧q.1=p.1):=by
 simp[tM] at h;cases hb:Nat.blt off a.size with
 |true=>
  rw[hb] at h;split at h
  ·cases h;simp_all
  ·cases h
 |false=>
  rw[hb] at h;simp  at h;split at h
  ·rename_i x hx;cases h;exact .inr ⟨vNn hb,hx,rfl⟩
  ·cases h
theorem vL5:∀{t x y off c},tM t x off c=some y→off<t.size
 |.int k,x,y,off,c,h=>by rw[(yI1 h).1];simp[Ty.size]
 |.bool,x,y,off,c,h=>by rw[(vGj h).1];simp[Ty.size]
 |.sl t,x,y,off,c,h=>by rw[(yKe h).1];simp[Ty.size]
 |.pair a b,x,y,off,c,h=>by
  simp[Ty.size];rcases vId h with⟨h1,_⟩|⟨h1,h2,_⟩
  ·omega
  ·have:=vL5 h2;omega
theorem Vb {M}:∀t x y off c u rd gz,qH M.H M.G t x rd→tM t x off c=some y→qA M c u→
  gz off=some u→(∀j,j≠off→j<t.size→gz j=rd j)→qH M.H M.G t y gz
 |.int k,x,y,off,c,u,rd,gz,hE,h,hc,hr,ma=>by
  obtain⟨rfl,rfl⟩:=yI1 h;simp[qH];rw[hr,show u=_ from hc]
 |.bool,x,y,off,c,u,rd,gz,hE,h,hc,hr,ma=>by
  obtain⟨rfl,rfl⟩:=vGj h;simp[qH];rw[hr,show u=_ from hc]
 |.sl t,x,y,off,c,u,rd,gz,hE,h,hc,hr,ma=>by
  obtain⟨rfl,rfl|⟨rfl,rfl⟩⟩:=yKe h
  ·have mb:qH M.H M.G (.sl t) y (fun _=>some u):=hc;refine vF (by simp) (by simp) _ _ _ _ (fun j hj=>?_) mb;simp[Ty.size] at hj;simp_all
  ·exact⟨none,0,0,by rw[hr,show u=_ from hc],rfl,by simp,by simp⟩
 |.pair a b,x,y,off,c,u,rd,gz,hE,h,hc,hr,ma=>by
  simp[Ty.size] at ma;rcases vId h with⟨h1,h2,h3⟩|⟨h1,h2,h3⟩
  ·refine⟨Vb a _ _ off c u rd gz hE.1 h2 hc hr (by grind),?_⟩;rw[h3];exact vF (by simp) (by simp) _ _ _ _ (by grind) hE.2
  ·refine⟨?_,Vb b _ _ (off-a.size) c u _ _ hE.2 h2 hc (by simp_all) (by grind)⟩;rw[h3];exact vF (by simp) (by simp) _ _ _ _ (by grind) hE.1
theorem vEo {t}:∀{vs x y off},tN t x off vs=some y→vs=[]∨off+vs.length≤t.size
 |[],_,_,_,_=>.inl rfl
 |v::vs,x,y,off,h=>by
  unfold tN at h;split at h
  ·rename_i z hz;have h1:=vL5 hz;rcases vEo h with rfl|h2
   all_goals grind
  ·cases h
theorem Vc {M} t:∀vs us x y off rd gz,qH M.H M.G t x rd→tN t x off vs=some y→zO (qA M) vs us→
  (∀i,i<us.length→gz (off+i)=us[i]?)→(∀j,(j<off∨off+us.length≤j)→j<t.size→gz j=rd j)→qH M.H M.G t y gz
 |[],[],x,y,off,rd,gz,hE,h,_,_,ma=>by
  cases h;exact vF (by simp) (by simp) _ _ _ _ (by grind) hE
 |v::vs,u::us,x,y,off,rd,gz,hE,h,hc,hr,ma=>by
  unfold tN at h;split at h
  ·rename_i z hz;have h1:=Vb t x z off v u rd (fun j=>if j=off then some u else rd j) hE hz hc.1 (by simp) (by grind);refine Vc t vs us z y (off+1) _ gz h1 h hc.2 (fun i hi=>?_) (fun j hj xl=>?_)
   ·have:=hr (i+1) (by simp;omega);grind
   ·by_cases e:j=off
    ·have:=hr 0 (by simp);simp_all
    grind
  ·cases h
theorem yNu {i k sz j:Nat}(h:i≠k)(hj:j<sz):k*sz+j<i*sz∨i*sz+sz≤k*sz+j:=by
 rcases Nat.lt_or_gt_of_ne h with h|h
 ·have:=Nat.mul_le_mul_right sz (show i+1≤k by omega);grind
 ·have:=Nat.mul_le_mul_right sz (show k+1≤i by omega);grind
theorem vYt {C:qE}(hn:C.fp.Nodup){i k:Nat}{R R':Nat}{a b:Nat}(hi:C.rows[i]? =some (some R,a))(hk:C.rows[k]? =some (some R',b))(h:i≠k):R≠R':=by
 intro e;subst e;have Ec:(C.rows.filterMap (·.1)).Nodup:=(List.nodup_append.1 hn).2.1;clear hn;have gen:∀(l:List (Option Nat×Nat)) (i k:Nat),i<k→l[i]? =some (some R,a)∨l[i]? =some (some R,b)→l[k]? =some (some R,b)∨l[k]? =some (some R,a)→(l.filterMap (·.1)).Nodup→False:=by
  intro l
  induction l with
  |nil=>intro i k _ h1 _ _;simp at h1
  |cons x l ih=>
   intro i k Vd h1 h2 hn;obtain⟨k,rfl⟩:∃m,k=m+1:=⟨k-1,by omega⟩;have dp:R∈l.filterMap (·.1):=by
    simp only[List.getElem?_cons_succ] at h2;rcases h2 with h2|h2<;>exact List.mem_filterMap.2 ⟨_,List.mem_of_getElem? h2,rfl⟩
   cases i with
   |zero=>
    grind
   |succ i=>
    grind
 grind
theorem Ve {C:qE}(hn:C.fp.Nodup){k R B b:Nat}(hk:C.rows[k]? =some (some R,b))(hB:C.blk=some B):R≠B:=by
 intro e;subst e;have:=(List.nodup_append.1 hn).2.2 R (by simp[hB]) R (by grind);omega
theorem fS {C:qE}{B}(h:C.blk=some B):B∈C.fp:=by simp[qE.fp,h]
theorem Vf {C:qE}{k R b:Nat}(h:C.rows[k]? =some (some R,b)):R∈C.fp:=by
 simp[qE.fp];grind
theorem Vg {P M w}(ok:Ok M)(hM:M.H=w.heap){t id o o' C B off vals e rv}
  (an:M.h id=some o) (aN:o.owned=true) (hC:M.κ id=some C) (hB:B∈C.fp) (hb:M.H[B]? =some (.cells vals e (0,0)))
  (hn:rv.cells.size=P.cellsOf t) (h0:0<P.cellsOf t) (aM:off+rv.cells.size≤vals.size) (h1:∀u∈rv.cells.toList,u.one1=true)
  (hO:∀M',M'.κ=κset M.κ id C→M'.F=M.F→M'.G=M.G→yV M M'→M'.H[B]? =some (.cells (vB vals off rv.cells.toList) e (0,0))→(∀b,b≠B→M'.H[b]? =M.H[b]?)→vC M' o' C):
  ng P (storeVar t ⟨B,off,none⟩ rv) M w [(id,o')]:=by
 have bg:w.heap[B]? =some (.cells vals e (0,0)):=by simp_all
 have hr:=U6 (P:=P) bg hn h0 aM h1;obtain⟨f1,f2,f3,f4⟩:=oW bg (new:=vB vals off rv.cells.toList) (gU (by omega));have hH:∀b,b∉C.fp→(w.setRow B (vB vals off rv.cells.toList)).heap[b]? =M.H[b]? :=by grind
 have cR:∀b,b<M.H.size→yE (w.setRow B (vB vals off rv.cells.toList)).heap b=yE M.H b:=by grind
 have x:=zN.write_ext ok an aN hC C.le_refl hH cR o';have:=zN.write_ok ok an aN hC C.le_refl (by simp) (by rw[hM];exact f1) hH cR
  (hO (M.write id o' C _) rfl rfl rfl x f2 (fun b tY=>by rw[hM];exact f3 b tY))
 exact⟨_,_,hr,rfl,rfl,rfl,rfl,rfl,this.1,this.2⟩
theorem Vh {P M w}(ok:Ok M)(hM:M.H=w.heap){t id off cells bF vs B C rv}
  (an:M.h id=some (.box true cells)) (hC:M.κ id=some C) (hB:C.blk=some B) (dI:zO (qA M) vs rv.cells.toList) (hn:vs.length=P.cellsOf t) (h0:0<vs.length)
  (hp:A5 cells off vs=some bF):ng P (storeVar t ⟨B,off,none⟩ rv) M w [(id,.box true bF)]:=by
 obtain⟨C',aF,hO⟩:=ok.obj id _ an;rw[hC] at aF;cases aF;obtain⟨B',vals,e,k1,k2,k3,k4,k5⟩:=hO;rw[hB] at k1;cases k1;obtain⟨p1,p2⟩:=U4 vs cells off bF hp;have hl:vs.length=rv.cells.size:=by simpa using dI.length
 have aM:off+rv.cells.size≤vals.size:=by
  have:=k4.length;grind
 refine Vg ok hM an rfl hC (fS hB) k3 (by omega) (by omega) aM (U5 dI) fun M' _ _ hG x h1 h2=>?_
 refine⟨B,_,e,hB,k2,h1,?_,by simp⟩;rw[p2];exact U7 x k4 dI (by omega)
theorem vN5 {P M w}(ok:Ok M)(hM:M.H=w.heap){t id i off ty xs x vs B C rv}
  (an:M.h id=some (.arr true ty xs)) (hC:M.κ id=some C) (hB:C.blk=some B) (hi:i<C.len) (dI:zO (qA M) vs rv.cells.toList) (hn:vs.length=P.cellsOf t) (h0:0<vs.length)
  (hp:tN ty (xs.getD i ty.dflt) off vs=some x):ng P (storeVar t ⟨B,i*C.sz+off,none⟩ rv) M w [(id,.arr true ty (xs.set i x))]:=by
 obtain⟨C',aF,hO⟩:=ok.obj id _ an;rw[hC] at aF;cases aF;obtain⟨k1,k2,k3,k4⟩:=hO;rw[hB] at k4;obtain⟨vals,e,k5,k6,k7,k8⟩:=k4;have hl:vs.length=rv.cells.size:=by simpa using dI.length
 have ajH:off+vs.length≤ty.size:=by
  rcases vEo hp with rfl|h
  ·simp at h0
  ·exact h
 have JG:i<xs.length:=by omega
 have e1:xs.getD i ty.dflt=xs[i]:=by simp[List.getD,JG]
 have aU:=Nat.mul_le_mul_right ty.size (show i+1≤xs.length by omega);rw[Nat.add_mul] at aU;have aM:i*C.sz+off+rv.cells.size≤vals.size:=by rw[k2];omega
 refine Vg ok hM an rfl hC (fS hB) k5 (by omega) (by omega) aM (U5 dI) fun M' _ _ hG xt h1 h2=>?_
 refine⟨by simp_all,k2,k3,?_⟩;rw[hB];refine⟨_,e,h1,by simp,by rw[List.length_set,gU (by simpa using aM)];exact k7,fun k hk=>?_⟩;rw[List.length_set] at hk;have O4:=vF (F:=M.G) (F':=M'.G) xt.G xt.sameG ty _ _ _ (fun _ _=>rfl) (k8 k hk);by_cases e2:k=i
 ·subst e2;simp;refine Vc ty vs rv.cells.toList xs[k] x off _ _ O4 (by rw[←e1];exact hp) (dI.mono fun _ _ h=>h.ext xt) (fun j hj=>?_) (fun j hj xl=>?_)
  ·rw[dZ (by simpa using aM),if_neg (by rw[k2];omega),if_pos (by grind),k2]
   congr 1;omega
  ·rw[dZ (by simpa using aM)];grind
 ·rw[List.getElem_set_ne (by grind)];refine vF (by simp) (by simp) ty _ _ _ (fun j hj=>?_) O4;rw[dZ (by simpa using aM)];rw[k2];rcases yNu (Ne.symm e2) hj with h|h
  all_goals grind
theorem vS3 {P M w}(ok:Ok M)(hM:M.H=w.heap){t id i j ver xs n R rl C}
  (an:M.h id=some (.mat ver xs)) (hC:M.κ id=some C) (hR:C.rows[i]? =some (some R,rl)) (hj:j<rl) (hn:1=P.cellsOf t):
  ng P (storeVar t ⟨R,j,none⟩ (.int .i64 n)) M w [(id,.mat ver (xs.set i ((xs.getD i []).set j n)))]:=by
 obtain⟨C',aF,hO⟩:=ok.obj id _ an;rw[hC] at aF;cases aF;obtain⟨k1,k2,k3,k4,k5,k6⟩:=hO;have hi:i<xs.length:=by
  rw[←k4];rcases Nat.lt_or_ge i C.rows.length with h|h
  ·exact h
  ·rw[List.getElem?_eq_none h] at hR;cases hR
 cases hB:C.blk with
 |none=>rw[hB] at k6;subst k6;simp at hi
 |some B=>
  rw[hB] at k6;obtain⟨vals,e,k7,k8,k9⟩:=k6;obtain⟨rb,v,q1,q2,q3,q4⟩:=k9 i hi;rw[hR] at q1;cases q1;obtain⟨rv,er,q5,q6⟩:=q4 R rfl;have hRB:R≠B:=Ve k5 hR hB;have xl:j<rv.size:=by
   have:=q6 j hj;rcases Nat.lt_or_ge j rv.size with h|h
   ·exact h
   ·rw[Array.getElem?_eq_none h] at this;cases this
  have e1:xs.getD i []=xs[i]:=by simp[List.getD,hi]
  refine Vg ok hM an rfl hC (Vf hR) q5 (by rw[←hn];rfl) (by omega) (by show j+1≤rv.size;omega) (by intro u hu;simp[Value.cells] at hu;subst hu;rfl) fun M' _ _ hG x h1 h2=>?_
  refine⟨k1,by rw[List.length_set];exact k2,k3,by rw[List.length_set];exact k4,k5,?_⟩;rw[hB];refine⟨vals,e,by rw[h2 B (Ne.symm hRB)];exact k7,by rw[List.length_set];exact k8,fun k hk=>?_⟩;rw[List.length_set] at hk;by_cases e2:k=i
  ·subst e2;simp only[List.getElem_set_self,e1,List.length_set];refine⟨some R,v,hR,q2,q3.ext x,fun R' Bg=>?_⟩;cases Bg;refine⟨_,er,h1,fun m hm=>?_⟩;rw[dZ (by show j+1≤rv.size;omega)];show(if m<j then rv[m]? else if m<j+1 then[Value.int .i64 n][m-j]? else rv[m]?)=_;grind
  ·rw[List.getElem_set_ne (Ne.symm e2)];obtain⟨pS,v',p1,p2,p3,p4⟩:=k9 k hk;refine⟨pS,v',p1,p2,p3.ext x,fun R' Bg=>?_⟩;subst Bg;obtain⟨tZ,JH,p5,p6⟩:=p4 R' rfl;exact⟨tZ,JH,by rw[h2 R' (vYt k5 p1 hR e2)];exact p5,p6⟩
theorem O5 {x}:∀(l:List (Option Nat×Nat)) i,(l.filterMap (·.1)).Nodup→(∀R,x.1=some R→R∉l.filterMap (·.1))→
  ((l.set i x).filterMap (·.1)).Nodup∧∀y∈(l.set i x).filterMap (·.1),y∈l.filterMap (·.1)∨x.1=some y
 |[],_,h,_=>by simp
 |a::l,0,h,hx=>by
  grind
 |a::l,i+1,h,hx=>by
  simp only[List.set_cons_succ];cases ha:a.1 with
  |none=>
   rw[List.filterMap_cons_none ha] at h hx⊢;rw[List.filterMap_cons_none ha];exact O5 l i h hx
  |some z=>
   rw[List.filterMap_cons_some ha] at h hx⊢;obtain⟨h1,h2⟩:=List.nodup_cons.1 h;obtain⟨k1,k2⟩:=O5 l i h2 fun R hR hm=>hx R hR (by grind)
   grind
def zN.absorb (M:zN)(id jd:Nat)(o:Obj)(C:qE)(H:Array Go.Obj):zN:={M with κ:=κset M.κ id C,h:=yP (yP M.h jd .gone) id o,H:=H}
theorem zN.absorb_ok {M}(ok:Ok M){id jd o oj o' C Cj C' H'}(bx:id≠jd)(an:M.h id=some o)(aN:o.owned=true)(hC:M.κ id=some C)
    (dh:M.h jd=some oj) (xm:oj.owned=true) (eM:M.κ jd=some Cj) (hle:C.le C') (sg:∀b∈C'.fp,b∈C.fp∨b∈Cj.fp) (dH:H'.size=M.H.size)
    (hH:∀b,b∉C.fp→H'[b]? =M.H[b]?) (cR:∀b,b<M.H.size→yE H' b=yE M.H b)
    (hO:yV M (M.absorb id jd o' C' H')→vC (M.absorb id jd o' C' H') o' C'):Ok (M.absorb id jd o' C' H')∧yT M (M.absorb id jd o' C' H'):=by
  have xk:∀b,M.F b→b∉C.fp:=fun b hF hb=>(ok.own b ⟨id,o,C,an,aN,hC,hb⟩).1 hF
  have x:yV M (M.absorb id jd o' C' H'):=
    { κ:=fun n D h=>by
        by_cases e:n=id
        · subst e;rw[hC] at h;cases h;exact⟨C',κset_same _ _ _,hle⟩
        · exact⟨D,by simp only[zN.absorb];rw[κset_ne _ _ e];exact h,D.le_refl⟩
      F:=fun _ h=>h
      G:=fun _ h=>h
      same:=fun b h=>hH b (xk b h)
      sameG:=fun b h=>hH b (xk b (ok.GF b h))
      bsz:=cR}
  have bg:∀b∈C'.fp,qU M b:=fun b hb=>by
    rcases sg b hb with hb|hb
    · exact⟨id,o,C,an,aN,hC,hb⟩
    · exact⟨jd,oj,Cj,dh,xm,eM,hb⟩
  have dm:∀n q,n≠id→(M.absorb id jd o' C' H').h n=some q→q.owned=true→n≠jd∧M.h n=some q:=by
    intro n q e h1 h2;simp only[zN.absorb] at h1;rw[yZ _ _ e] at h1;by_cases e':n=jd
    · subst e';rw[yW] at h1;cases h1;cases h2
    · rw[yZ _ _ e'] at h1;simp_all
  have tV:∀b,qU (M.absorb id jd o' C' H') b→qU M b:=by
    rintro b ⟨n,q,D,h1,h2,h3,h4⟩
    by_cases e:n=id
    · subst e;simp only[zN.absorb,κset_same,Option.some.injEq] at h3;simp_all
    · obtain⟨e',fa⟩:=dm n q e h1 h2;simp only[zN.absorb] at h3;rw[κset_ne _ _ e] at h3;exact⟨n,q,D,fa,h2,h3,h4⟩
  refine⟨ok.build x (fun n=>n=id∨n=jd) (fun n hn=>?_) (fun n hn=>κset_ne _ _ (by grind)) ?_ ?_ (by simp only[zN.absorb];omega) ?_ ?_ ?_ ok.GF ?_,x,by simp only[zN.absorb];omega,?_,by grind,fun b h _=>.inl h,fun b h _=>.inl h⟩
  · simp only[zN.absorb];rw[yZ _ _ (by grind),yZ _ _ (by grind)]
  · intro n q D hn h1 h2 h3 b hb;exact hH b fun hc=>ok.disj n id q o D C b (by grind) h1 an h2 aN h3 hC hb hc
  · intro n q D hn h1 h2 h3 b hb;exact(ok.own b ⟨n,q,D,h1,h2,h3,hb⟩).1
  · rintro n q (rfl|rfl) h1
    · simp only[zN.absorb,yW,Option.some.injEq] at h1;subst h1;exact⟨C',κset_same _ _ _,hO x⟩
    · simp only[zN.absorb] at h1;rw[yZ _ _ (Ne.symm bx),yW] at h1;cases h1;exact⟨Cj,by simp only[zN.absorb];rw[κset_ne _ _ (by grind)];omega,trivial⟩
  · rintro n (rfl|rfl) h1
    · simp only[zN.absorb,yW] at h1;cases h1
    · simp only[zN.absorb] at h1;rw[yZ _ _ (by grind),yW] at h1;cases h1
  · rintro n q D b (rfl|rfl) h1 h2 h3 hb
    · simp only[zN.absorb,κset_same,Option.some.injEq] at h3;subst h3;have hbo:=ok.own b (bg b hb);refine⟨fun j qj Dj hj k1 k2 k3 k4=>?_,hbo.1,by simp only[zN.absorb];omega⟩;obtain⟨Vi,Ed⟩:=dm j qj hj k1 k2;simp only[zN.absorb] at k3;rw[κset_ne _ _ hj] at k3;rcases sg b hb with hb|hb
      · exact ok.disj j n qj o Dj C b hj Ed an k2 aN k3 hC k4 hb
      · exact ok.disj j jd qj oj Dj Cj b Vi Ed dh k2 xm k3 eM k4 hb
    grind
  · intro b hb;have:=ok.Flt b hb;simp only[zN.absorb];omega
  · intro b hb hn;exact hH b fun hc=>hn ⟨id,o,C,an,aN,hC,hc⟩
theorem JI {M t xs C}(h:vC M (.arr true t xs) C):C.rows=[]∧C.fp=C.blk.toList:=by
 have:=h.2.2.1 rfl;exact⟨this,by simp[qE.fp,this]⟩
theorem Vj {M}{ys:List Int}{C jd v}(hC:M.κ jd=some C)(hO:vC M (.arr true (.int .i64) ys) C)(hv:qA M (.osl jd none) v):
  mX M.H C.blk ys.length v∧∀R,C.blk=some R→∃rv er,M.H[R]? =some (.cells rv er (0,0))∧∀j (h':j<ys.length),rv[j]? =some (.int .i64 ys[j]):=by
 obtain⟨h1,h2,h3,h4⟩:=hO;obtain⟨C',aF,A,c,rfl,h⟩:=hv;rw[hC] at aF;cases aF;cases hB:C.blk with
 |none=>
  rw[hB] at h;obtain⟨rfl,e,rfl⟩:=h;exact⟨⟨by rw[e],by omega⟩,by simp⟩
 |some B=>
  rw[hB] at h h4;obtain⟨hc,a,rfl,ha,hs⟩:=h;obtain⟨vals,e,h5,h6,h7,h8⟩:=h4;refine⟨⟨a,c,by rw[h1],by omega,by omega,by simpa[h2,Ty.size] using hs⟩,fun R hR=>?_⟩;cases hR;refine⟨vals,e,h5,fun j hj=>?_⟩;have:=h8 j hj
  simpa[qH,Ty.size] using this
theorem vPs {P M w}(ok:Ok M)(hM:M.H=w.heap){t id jd i ver xs}{ys:List Int}{B C rv}
  (an:M.h id=some (.mat ver xs)) (hC:M.κ id=some C) (hB:C.blk=some B) (hi:i<C.len) (dh:M.h jd=some (.arr true (.int .i64) ys)) (hv:qA M (.osl jd none) rv) (hn:1=P.cellsOf t):
  ng P (storeVar t ⟨B,i,none⟩ rv) M w [(jd,.gone),(id,.mat (ver+1) (xs.set i ys))]:=by
 obtain⟨C',aF,hO⟩:=ok.obj id _ an;rw[hC] at aF;cases aF;obtain⟨Cj,eM,nS⟩:=ok.obj jd _ dh;obtain⟨jr,jf⟩:=JI nS;have bx:id≠jd:=fun e=>by rw[e,dh] at an;cases an
 obtain⟨r1,r2⟩:=Vj eM nS hv;obtain⟨k1,k2,k3,k4,k5,k6⟩:=hO;rw[hB] at k6;obtain⟨vals,e,k7,k8,k9⟩:=k6;have bg:w.heap[B]? =some (.cells vals e (0,0)):=by rw[←hM];exact k7
 have bS:=hv.one;have aH:rv.cells=#[rv]:=by cases rv<;>first|rfl|cases bS
 have aM:i+rv.cells.size≤vals.size:=by rw[aH];show i+1≤vals.size;omega
 have dN:i+rv.cells.toList.length≤vals.size:=by rw[Array.length_toList];exact aM
 have hr:=U6 (P:=P) (t:=t) (off:=i) (rv:=rv) bg (by rw[aH];exact hn) (by omega) aM (by intro u hu;rw[aH] at hu;simp at hu;subst hu;exact bS);obtain⟨f1,f2,f3,f4⟩:=oW bg (new:=vB vals i rv.cells.toList) (gU dN);have ee:∀R,Cj.blk=some R→R∉C.fp:=fun R hR hm=>ok.disj id jd _ _ C Cj R bx an dh rfl rfl hC eM hm (fS hR)
 have dJ:=List.nodup_append.1 k5;obtain⟨s1,s2⟩:=O5 (x:=(Cj.blk,ys.length)) C.rows i dJ.2.1 (fun R hR hm=>ee R hR (by simp only[qE.fp,List.mem_append];exact .inr hm));let D:qE:={C with ver:=ver+1,rows:=C.rows.set i (Cj.blk,ys.length)};have Bh:∀b∈D.fp,b∈C.fp∨b∈Cj.fp:=fun b hb=>by
  simp only[qE.fp,List.mem_append] at hb;rcases hb with hb|hb
  ·exact .inl (by simp only[qE.fp,List.mem_append];exact .inl hb)
  ·rcases s2 b hb with hb|hb
   ·exact .inl (by simp only[qE.fp,List.mem_append];exact .inr hb)
   ·exact .inr (fS hb)
 have Bi:D.fp.Nodup:=by
  refine List.nodup_append.2 ⟨dJ.1,s1,fun a ha b hb e=>?_⟩;subst e;rcases s2 a hb with hb|hb
  ·exact dJ.2.2 a ha a hb rfl
  ·exact ee a hb (by simp only[qE.fp,List.mem_append];exact .inl ha)
 have:=zN.absorb_ok (H':=(w.setRow B (vB vals i rv.cells.toList)).heap) (o':=.mat (ver+1) (xs.set i ys)) (C':=D) ok bx an rfl hC dh rfl eM ⟨rfl,rfl,rfl,by show C.ver≤ver+1;omega,by grind⟩ Bh
  (by rw [hM]; exact f1) (fun b tY => by rw [hM]; exact f3 b fun e => tY (e ▸ fS hB)) (fun b _ => by rw [hM]; exact f4 b) (fun x=>by
   refine⟨rfl,by rw[List.length_set];exact k2,k3,by simp only[D,List.length_set];exact k4,Bi,?_⟩;have Vk:D.blk=some B:=hB;rw[Vk];refine⟨_,e,f2,by rw[List.length_set,gU dN];exact k8,fun k hk=>?_⟩;rw[List.length_set] at hk;by_cases e2:k=i
   ·subst e2;simp only[List.getElem_set_self];refine⟨Cj.blk,rv,?_,?_,r1.ext x,fun R hR=>?_⟩
    ·simp only[D];rw[List.getElem?_set_self (by omega)]
    ·rw[dZ dN,if_neg (by omega),if_pos (by rw[aH];show k<k+1;omega),aH];simp
    ·obtain⟨tZ,er,q5,q6⟩:=r2 R hR;refine⟨tZ,er,?_,q6⟩;have:R≠B:=fun e=>ee R hR (e▸fS hB)
     show(w.setRow B _).heap[R]? =_;rw[f3 R this,←hM];exact q5
   ·rw[List.getElem_set_ne (Ne.symm e2)];obtain⟨pS,v',p1,p2,p3,p4⟩:=k9 k hk;refine⟨pS,v',?_,?_,p3.ext x,fun R' Bg=>?_⟩
    ·simp only[D];rw[List.getElem?_set_ne (Ne.symm e2)];exact p1
    ·rw[dZ dN,aH];show(if k<i then vals[k]? else if k<i+1 then _ else vals[k]?)=_;split
     ·exact p2
     ·rw[if_neg (by omega)];exact p2
    ·subst Bg;obtain⟨tZ,JH,p5,p6⟩:=p4 R' rfl;refine⟨tZ,JH,?_,p6⟩;have:R'≠B:=Ve k5 p1 hB;show(w.setRow B _).heap[R']? =_;rw[f3 R' this,←hM];exact p5)
 exact⟨_,_,hr,rfl,rfl,rfl,rfl,rfl,this.1,this.2⟩
theorem Vl {P M w}(ok:Ok M)(hM:M.H=w.heap){t id jd ver n xs}{ys:List Int}{B C rv}
  (an:M.h id=some (.pmat ver xs n)) (hC:M.κ id=some C) (hB:C.blk=some B) (hi:xs.length<C.len) (dh:M.h jd=some (.arr true (.int .i64) ys)) (hv:qA M (.osl jd none) rv) (hn:1=P.cellsOf t):
  ng P (storeVar t ⟨B,xs.length,none⟩ rv) M w [(jd,.gone),(id,.pmat (ver+1) (xs++[ys]) n)]:=by
 obtain⟨C',aF,hO⟩:=ok.obj id _ an;rw[hC] at aF;cases aF;obtain⟨Cj,eM,nS⟩:=ok.obj jd _ dh;obtain⟨jr,jf⟩:=JI nS;have bx:id≠jd:=fun e=>by rw[e,dh] at an;cases an
 obtain⟨r1,r2⟩:=Vj eM nS hv;obtain⟨k1,k2,k3,k4,k5,k0,k6⟩:=hO;rw[hB] at k6;obtain⟨vals,e,k7,k8,k9⟩:=k6;have bg:w.heap[B]? =some (.cells vals e (0,0)):=by rw[←hM];exact k7
 have bS:=hv.one;have aH:rv.cells=#[rv]:=by cases rv<;>first|rfl|cases bS
 have aM:xs.length+rv.cells.size≤vals.size:=by rw[aH];show xs.length+1≤vals.size;omega
 have dN:xs.length+rv.cells.toList.length≤vals.size:=by rw[Array.length_toList];exact aM
 have hr:=U6 (P:=P) (t:=t) (off:=xs.length) (rv:=rv) bg (by rw[aH];exact hn) (by omega) aM (by intro u hu;rw[aH] at hu;simp at hu;subst hu;exact bS);obtain⟨f1,f2,f3,f4⟩:=oW bg (new:=vB vals xs.length rv.cells.toList) (gU dN);have ee:∀R,Cj.blk=some R→R∉C.fp:=fun R hR hm=>ok.disj id jd _ _ C Cj R bx an dh rfl rfl hC eM hm (fS hR)
 have dJ:=List.nodup_append.1 k5;have Vm:(C.rows++[(Cj.blk,ys.length)]).filterMap (·.1)=C.rows.filterMap (·.1)++Cj.blk.toList:=by
  rw[List.filterMap_append];cases Cj.blk<;>simp
 have s1:((C.rows++[(Cj.blk,ys.length)]).filterMap (·.1)).Nodup:=by
  rw[Vm];refine List.nodup_append.2 ⟨dJ.2.1,by cases Cj.blk<;>simp,fun x hx y hy e=>?_⟩;subst e;have:Cj.blk=some x:=by simpa using hy
  exact ee x this (by simp only[qE.fp,List.mem_append];exact .inr hx)
 have s2:∀y∈(C.rows++[(Cj.blk,ys.length)]).filterMap (·.1),y∈C.rows.filterMap (·.1)∨Cj.blk=some y:=by simp
 let D:qE:={C with ver:=ver+1,rows:=C.rows++[(Cj.blk,ys.length)]};have Bh:∀b∈D.fp,b∈C.fp∨b∈Cj.fp:=fun b hb=>by
  simp only[qE.fp,List.mem_append] at hb;rcases hb with hb|hb
  ·exact .inl (by simp only[qE.fp,List.mem_append];exact .inl hb)
  ·rcases s2 b hb with hb|hb
   ·exact .inl (by simp only[qE.fp,List.mem_append];exact .inr hb)
   ·exact .inr (fS hb)
 have Bi:D.fp.Nodup:=by
  refine List.nodup_append.2 ⟨dJ.1,s1,fun a ha b hb e=>?_⟩;subst e;rcases s2 a hb with hb|hb
  ·exact dJ.2.2 a ha a hb rfl
  ·exact ee a hb (by simp only[qE.fp,List.mem_append];exact .inl ha)
 have:=zN.absorb_ok (H':=(w.setRow B (vB vals xs.length rv.cells.toList)).heap) (o':=.pmat (ver+1) (xs++[ys]) n) (C':=D) ok bx an rfl hC dh rfl eM ⟨rfl,rfl,rfl,by show C.ver≤ver+1;omega,fun e=>by have:ver+1=C.ver:=e;omega⟩ Bh
  (by rw [hM]; exact f1) (fun b tY => by rw [hM]; exact f3 b fun e => tY (e ▸ fS hB)) (fun b _ => by rw [hM]; exact f4 b) (fun x=>by
   refine⟨rfl,k2,k3,by simp only[D,List.length_append,k4];rfl,Bi,by simp;omega,?_⟩;have Vk:D.blk=some B:=hB;rw[Vk];refine⟨_,e,f2,by rw[gU dN];exact k8,fun k hk=>?_⟩;rw[List.length_append,List.length_singleton] at hk;by_cases e2:k=xs.length
   ·subst e2;simp only[List.getElem_concat_length];refine⟨Cj.blk,rv,?_,?_,r1.ext x,fun R hR=>?_⟩
    ·simp only[D];rw[List.getElem?_append_right (by omega),k4];simp
    ·rw[dZ dN,if_neg (by omega),if_pos (by rw[aH];show xs.length<xs.length+1;omega),aH];simp
    ·obtain⟨tZ,er,q5,q6⟩:=r2 R hR;refine⟨tZ,er,?_,q6⟩;have:R≠B:=fun e=>ee R hR (e▸fS hB)
     show(w.setRow B _).heap[R]? =_;rw[f3 R this,←hM];exact q5
   ·have pT:k<xs.length:=by omega
    rw[List.getElem_append_left pT];obtain⟨pS,v',p1,p2,p3,p4⟩:=k9 k pT;refine⟨pS,v',?_,?_,p3.ext x,fun R' Bg=>?_⟩
    ·simp only[D];rw[List.getElem?_append_left (by omega)];exact p1
    ·rw[dZ dN,aH];rw[if_pos pT];exact p2
    ·subst Bg;obtain⟨tZ,JH,p5,p6⟩:=p4 R' rfl;refine⟨tZ,JH,?_,p6⟩;have:R'≠B:=Ve k5 p1 hB;show(w.setRow B _).heap[R']? =_;rw[f3 R' this,←hM];exact p5)
 exact⟨_,_,hr,rfl,rfl,rfl,rfl,rfl,this.1,this.2⟩
theorem O6 h {n}:∀{u},(u.any fun p=>Nat.beq p.1 n)=false→qL h u n=h n
 |[],_=>rfl
 |(id,o)::u,hu=>by
  simp only[List.any_cons,Bool.or_eq_false_iff] at hu;have:n≠id:=fun e=>by simp_all
  show qL (yP h id o) u n=h n;rw[O6 (yP h id o) hu.2,yZ _ _ this]
theorem vYc {P M w}(ok:Ok M)(hM:M.H=w.heap){t a v r u ra rv}(ha:zX M a ra)(hv:zX M v rv)
  (h:yQ (DL P M.h t a v) r u):r=.undef∧ng P (Instr.storeAt t ra rv) M w u:=by
 unfold DL at h;split at h
 ·exact h.elim
 ·rename_i vs dI;have dv:=O2 dI hv;cases hb:(Nat.beq vs.length (P.cellsOf t)&&Nat.blt 0 vs.length) with
  |false=>rw[hb] at h;exact h.elim
  |true=>
   rw[hb] at h;simp only[Bool.and_eq_true] at hb;have hn:=Nat.eq_of_beq_eq_true hb.1;have h0:=Va hb.2;split at h
   ·split at h
    ·rename_i cells an;split at h
     ·rename_i bF hp;obtain⟨_,rfl,rfl⟩:=gT h;obtain⟨C,B,hC,hB,rfl⟩:=ha;have:=Vh (P:=P) ok hM (t:=t) an hC hB dv hn h0 hp
      simpa[Instr.storeAt,ng,kI] using this
     ·exact h.elim
    ·exact h.elim
   ·rename_i id i off;split at h
    ·rename_i ty xs Vn u' an Ee;split at h
     ·rename_i x hp;cases hu:(u'.any fun p=>Nat.beq p.1 id) with
      |true=>rw[hu] at h;exact h.elim
      |false=>
      rw[hu] at h;obtain⟨_,rfl,rfl⟩:=gT h;refine⟨rfl,?_⟩;obtain⟨M1,a1,a2,a3,a4,a5,a6,a7⟩:=U9 ok (jL.refl _) dv Ee;obtain⟨C,B,hC,hB,hi,hra⟩:=qA.ext (c:=.eptr id i off) a4.ext ha;have pU:M1.h id=some (.arr true ty xs):=by rw[a2,O6 M.h hu];exact an
      have ua:=a5.length;have nT:=dv.length;obtain⟨w',M',b1,b2,b3,b4,b5,b6,b7,b8⟩:=vN5 (P:=P) a3 (a1.trans hM) (t:=t) pU hC hB hi a5 (by omega) (by omega) hp;subst hra;exact⟨w',M',by simpa[Instr.storeAt,kI] using b1,b2,b3,b4,b5,by rw[b6,a2,lE],b7,a4.trans b8⟩
     ·exact h.elim
    ·exact h.elim
   ·split at h
    ·rename_i ver xs jd an;split at h
     ·rename_i ys dh;obtain⟨_,rfl,rfl⟩:=gT h;obtain⟨C,B,hC,hB,hi,rfl⟩:=ha;have:=vPs (P:=P) ok hM (t:=t) an hC hB hi dh hv (by cases dI;exact hn)
      simpa[Instr.storeAt,ng,kI] using this
     ·exact h.elim
    ·rename_i ver xs n jd an;split at h
     ·rename_i ys dh;obtain⟨JG,rfl,rfl⟩:=gT h;obtain⟨C,B,hC,hB,hi,rfl⟩:=ha;have JG:=Nat.eq_of_beq_eq_true JG;subst JG;have:=Vl (P:=P) ok hM (t:=t) an hC hB hi dh hv (by cases dI;exact hn)
      simpa[Instr.storeAt,ng,kI] using this
     ·exact h.elim
    ·exact h.elim
   ·rename_i id i j ver;split at h
    ·rename_i v' xs n an;cases iT:Nat.beq v' ver with
     |false=>rw[iT] at h;exact h.elim
     |true=>
     rw[iT] at h;have e:=Nat.eq_of_beq_eq_true iT;subst e;obtain⟨_,rfl,rfl⟩:=gT h;obtain⟨C,hC,h1,hle,hm⟩:=ha;obtain⟨C',aF,hO⟩:=ok.obj _ _ an;rw[hC] at aF;cases aF;obtain⟨R,rl,k1,k2,rfl⟩:=hm hO.1;have pV:rv=.int .i64 n:=hv;subst pV;have:=vS3 (P:=P) ok hM (t:=t) (n:=n) an hC k1 k2 (by cases dI;exact hn)
     simpa[Instr.storeAt,ng,kI] using this
    ·exact h.elim
   ·exact h.elim
theorem gA {c s v u}(h:yQ (bif c then s else .stuck) v u):c=true∧yQ s v u:=by
 cases c with
 |true=>simp_all
 |false=>exact h.elim
theorem O7 {c s v u}(h:yQ (bif c then .stuck else s) v u):c=false∧yQ s v u:=by
 cases c with
 |false=>simp_all
 |true=>exact h.elim
theorem O8 {a b:Nat}(h:Nat.beq a b=false):a≠b:=fun e=>by simp_all
theorem Ef {i n}(h:zB i n=true):0≤i∧i<n∧i.toNat<n:=by
 simp[zB] at h;omega
theorem JJ {i mk}:∀{n j v u},OW (DJ i mk j n) v u→∃k,j≤k∧k<j+n∧i=(k:Int)∧v=.c (mk k)∧u=[]
 |n+1,j,v,u,h=>by
  rcases h with⟨h1,h2,h3⟩|⟨_,h⟩
  ·grind
  ·obtain⟨k,k1,k2,k3⟩:=JJ h;grind
theorem vN3 {P M w}(ok:Ok M)(hM:M.H=w.heap){s a v f u ra}(ha:zX M a ra)
  (h:yQ (UB P s a f) v u):qM P (Instr.fieldAt s ra f) M w v u:=by
 unfold UB at h;split at h
 ·rename_i fs hs;split at h
  ·rename_i fd hf;obtain⟨hz,h⟩:=O7 h;have hz:=O8 hz;obtain⟨i,hi⟩:=oT (P:=P) (t:=fd.type) (by omega);have hr:∀B o,(Instr.fieldAt s (.pointer (some ⟨B,o,none⟩)) f).run P w=.ok (.pointer (some ⟨B,o+fd.offset,none⟩)) w:=by
    simp[Instr.fieldAt,run_underlying hs,hf,kI,fieldPlace,iS w hi,hz,Addr.add_lit]
   split at h
   ·obtain⟨rfl,rfl⟩:=wR h;obtain⟨C,B,hC,hB,rfl⟩:=ha;exact qM.pure ok hM (hr _ _) ⟨C,B,hC,hB,rfl⟩
   ·obtain⟨rfl,rfl⟩:=wR h;obtain⟨C,B,hC,hB,hi,rfl⟩:=ha;exact qM.pure ok hM (hr _ _) ⟨C,B,hC,hB,hi,by grind⟩
   ·obtain⟨rfl,rfl⟩:=wR h;obtain⟨B,o,rfl,hB,hE⟩:=ha;exact qM.pure ok hM (hr _ _) ⟨B,o,by grind,hB,hE⟩
   ·exact h.elim
  ·exact h.elim
 ·exact h.elim
theorem JK {P w t e A}{n c:Nat}{k}{i:Int}{B o}(hu:P.underlying t=some (.slice e))(h0:0≤i)(h1:i<n)(he:0<P.cellsOf e)
  (hA:A=some ⟨B,o,none⟩):(Instr.indexAt t (.slice A n c) (.int k i)).run P w=.ok (.pointer (some ⟨B,o+i.toNat*P.cellsOf e,none⟩)) w:=by
 obtain⟨x,hx⟩:=oT he;subst hA;simp[Instr.indexAt,asIntOf,run_underlying hu,h0,h1,iS w hx,Addr.add_lit]
theorem Vo {P M w}(ok:Ok M)(hM:M.H=w.heap){t x i v u rx ri}(hx:zX M x rx)(hi:zX M i ri)
  (h:yQ (DM P M.h t x i) v u):qM P (Instr.indexAt t rx ri) M w v u:=by
 unfold DM at h;split at h
 ·rename_i e c k n hu;have me:ri=.int k n:=hi;subst me;split at h
  ·rename_i sh ty xs;obtain⟨hz,h⟩:=gA h;have hz:=Nat.eq_of_beq_eq_true hz;obtain⟨hb,rfl,rfl⟩:=l9 h;obtain⟨b0,b1,b2⟩:=Ef hb;have pW:qH M.H (bif sh then M.G else M.F) (.sl ty) xs (fun _=>some rx):=hx;simp only[qH,Option.some.injEq] at pW;obtain⟨A,m,c,rfl,rfl,hc,pW⟩:=pW;rcases pW with⟨rfl,_⟩|⟨B,o,rfl,hB,hE⟩
   ·simp at b2
   ·refine qM.pure ok hM (JK hu b0 b1 (by rw[hz];exact ty.size_pos) rfl) ⟨B,o+n.toNat*P.cellsOf e,rfl,hB,?_⟩;have e1:xs.getD n.toNat ty.dflt=xs[n.toNat]:=by simp[List.getD,b2]
    rw[e1,hz];exact hE _ b2
  ·rename_i id r;split at h
   ·rename_i own ty xs an;obtain⟨hz,h⟩:=gA h;have hz:=Nat.eq_of_beq_eq_true hz;obtain⟨C,hC,hS⟩:=hx;obtain⟨C',aF,hO⟩:=ok.obj _ _ an;rw[hC] at aF;cases aF;have hlen:=hO.1;have dH:=hO.2.1;have key:∀lo m,lo+m≤C.len→jJ M.H C lo m rx→0≤n→n<(m:Int)→∃B,C.blk=some B∧(Instr.indexAt t rx (.int k n)).run P w=.ok (.pointer (some ⟨B,(lo+n.toNat)*C.sz+0,none⟩)) w:=by
     intro lo m hm oX n0 n1;clear hS;obtain⟨A,c,rfl,hS⟩:=oX;cases hB:C.blk with
     |none=>rw[hB] at hS;obtain⟨_,rfl,_⟩:=hS;omega
     |some B=>
      rw[hB] at hS;obtain⟨hc,a,hA,ha,_⟩:=hS;refine⟨B,rfl,?_⟩;rw[JK hu n0 n1 (by rw[hz];exact ty.size_pos) hA];have:a=lo*C.sz:=by rcases ha with ha|ha<;>omega
      rw[this,hz,dH,Nat.add_mul];rfl
    split at h
    ·obtain⟨hb,rfl,rfl⟩:=l9 h;obtain⟨b0,b1,b2⟩:=Ef hb;obtain⟨B,hB,hr⟩:=key 0 C.len (by omega) hS b0 (by omega);rw[Nat.zero_add] at hr;exact qM.pure ok hM hr ⟨C,B,hC,hB,by omega,rfl⟩
    ·obtain⟨hb,rfl,rfl⟩:=l9 h;obtain⟨b0,b1,b2⟩:=Ef hb;obtain⟨B,hB,hr⟩:=key _ _ hS.1 hS.2.1 b0 b1;exact qM.pure ok hM hr ⟨C,B,hC,hB,by have:=hS.1;omega,rfl⟩
   ·rename_i ver xs an;obtain⟨hz,h⟩:=gA h;have hz:=Nat.eq_of_beq_eq_true hz;split at h
    ·obtain⟨hb,rfl,rfl⟩:=l9 h;obtain⟨b0,b1,b2⟩:=Ef hb;obtain⟨C,hC,hS⟩:=hx;obtain⟨C',aF,hO⟩:=ok.obj _ _ an;rw[hC] at aF;cases aF;have hlen:=hO.2.1;obtain⟨A,c,rfl,hS⟩:=hS;cases hB:C.blk with
     |none=>rw[hB] at hS;obtain⟨_,h0,_⟩:=hS;omega
     |some B=>
      rw[hB] at hS;obtain⟨hc,a,hA,ha,_⟩:=hS;have:a=0:=by rcases ha with ha|ha<;>omega
      have hr:=JK (P:=P) (w:=w) (c:=c) (k:=k) hu b0 (show n<(C.len:Int) by omega) (by omega) hA;rw[this,hz,Nat.zero_add,Nat.mul_one] at hr;exact qM.pure ok hM hr ⟨C,B,hC,hB,by omega,rfl⟩
    ·exact h.elim
   ·rename_i ver xs m an;obtain⟨hz,h⟩:=gA h;have hz:=Nat.eq_of_beq_eq_true hz;split at h
    ·obtain⟨hb,rfl,rfl⟩:=l9 h;obtain⟨b0,b1,b2⟩:=Ef hb;obtain⟨C,hC,hS⟩:=hx;obtain⟨C',aF,hO⟩:=ok.obj _ _ an;rw[hC] at aF;cases aF;have hlen:=hO.2.1;obtain⟨A,c,rfl,hS⟩:=hS;cases hB:C.blk with
     |none=>rw[hB] at hS;obtain⟨_,h0,_⟩:=hS;omega
     |some B=>
      rw[hB] at hS;obtain⟨hc,a,hA,ha,_⟩:=hS;have:a=0:=by rcases ha with ha|ha<;>omega
      have hr:=JK (P:=P) (w:=w) (c:=c) (k:=k) hu b0 (show n<(C.len:Int) by omega) (by omega) hA;rw[this,hz,Nat.zero_add,Nat.mul_one] at hr;exact qM.pure ok hM hr ⟨C,B,hC,hB,by omega,rfl⟩
    ·exact h.elim
   ·exact h.elim
  ·rename_i id j ver;obtain⟨hz,h⟩:=gA h;have hz:=Nat.eq_of_beq_eq_true hz;split at h
   ·rename_i v' xs an;obtain⟨hv,h⟩:=gA h;have hv:=Nat.eq_of_beq_eq_true hv;subst hv;obtain⟨hb,rfl,rfl⟩:=l9 h;obtain⟨b0,b1,b2⟩:=Ef hb;obtain⟨C,hC,h1,hle,hm⟩:=hx;obtain⟨C',aF,hO⟩:=ok.obj _ _ an;rw[hC] at aF;cases aF;obtain⟨rb,rl,k1,k2⟩:=hm hO.1;have hj:j<xs.length:=by
     rw[←hO.2.2.2.1];rcases Nat.lt_or_ge j C.rows.length with h|h
     ·exact h
     ·rw[List.getElem?_eq_none h] at k1;cases k1
    obtain⟨B,pS,x',q0,qv,q1,q2,q3,q4⟩:=D9 hO hj;rw[k1] at q1;cases q1;have e1:xs.getD j []=xs[j]:=by simp[List.getD,hj]
    rw[e1] at b1 b2;cases rb with
    |none=>obtain⟨_,h0⟩:=k2;omega
    |some R=>
     obtain⟨a,c,rfl,hc,ha,_⟩:=k2;have:a=0:=by rcases ha with ha|ha<;>omega
     subst this;have hr:=JK (P:=P) (w:=w) (c:=c) (k:=k) (A:=some ⟨R,0,none⟩) hu b0 b1 (by omega) rfl;rw[hz,Nat.zero_add,Nat.mul_one] at hr;exact qM.pure ok hM hr ⟨C,hC,rfl,hle,by grind⟩
   ·exact h.elim
  ·exact h.elim
 ·rename_i m e id off k n hu;have me:ri=.int k n:=hi;subst me;obtain⟨hz,h⟩:=O7 h;have hz:=O8 hz;obtain⟨j,j1,j2,rfl,rfl,rfl⟩:=JJ h;obtain⟨C,B,hC,hB,rfl⟩:=hx;obtain⟨y,hy⟩:=oT (P:=P) (t:=e) (by omega);refine qM.pure ok hM (rv:=.pointer (some ⟨B,off+j*P.cellsOf e,none⟩)) ?_ ⟨C,B,hC,hB,rfl⟩;have:(j:Int)<m:=by omega
  have h':¬m≤j:=by omega
  simp[Instr.indexAt,asIntOf,run_underlying hu,kI,this,h',iS w hy,Addr.add_lit]
 ·rename_i m e id q off k n hu;have me:ri=.int k n:=hi;subst me;obtain⟨hz,h⟩:=O7 h;have hz:=O8 hz;obtain⟨j,j1,j2,rfl,rfl,rfl⟩:=JJ h;obtain⟨C,B,hC,hB,hq,rfl⟩:=hx;obtain⟨y,hy⟩:=oT (P:=P) (t:=e) (by omega);refine qM.pure ok hM (rv:=.pointer (some ⟨B,_+j*P.cellsOf e,none⟩)) ?_ ⟨C,B,hC,hB,hq,by rw[Nat.add_assoc]⟩;have:(j:Int)<m:=by omega
  have h':¬m≤j:=by omega
  simp[Instr.indexAt,asIntOf,run_underlying hu,kI,this,h',iS w hy,Addr.add_lit]
 ·rename_i m e sh t x off k n hu;have me:ri=.int k n:=hi;subst me;obtain⟨hz,h⟩:=O7 h;have hz:=O8 hz;obtain⟨j,j1,j2,rfl,rfl,rfl⟩:=JJ h;obtain⟨B,o,rfl,hB,hE⟩:=hx;obtain⟨y,hy⟩:=oT (P:=P) (t:=e) (by omega);refine qM.pure ok hM (rv:=.pointer (some ⟨B,_+j*P.cellsOf e,none⟩)) ?_ ⟨B,o,by rw[Nat.add_assoc],hB,hE⟩;have:(j:Int)<m:=by omega
  have h':¬m≤j:=by omega
  simp[Instr.indexAt,asIntOf,run_underlying hu,kI,this,h',iS w hy,Addr.add_lit]
 ·exact h.elim
theorem yH5 {M cs}{us:Array Value}{off n vs}(h:zO (qA M) cs us.toList)(hc:mU cs off n=some vs):zO (qA M) vs (us.extract off (off+n)).toList:=by
 obtain⟨h1,rfl,h2⟩:=JE hc;have:=(h.drop off).take n;simp_all
theorem yUe {P M w t cs us off vs v}(h:zO (qA M) cs us.toList)
  (hc:mU cs off (P.cellsOf t)=some vs) (hp:rZ (eL P t) vs=some v):∃rv,(part t us off).run P w=.ok rv w∧zX M v rv:=by
 have bn:=yH5 h hc;obtain⟨h1,h2,h3⟩:=JE hc;have hl:=h.length;rcases U1 hp with⟨dY,rfl⟩|⟨dY,c,rfl,rfl⟩
 ·obtain⟨⟨d,hd⟩,hr⟩:=tW (P:=P) w dY;obtain⟨i,hi⟩:=OX hd;exact⟨.agg (us.extract off (off+P.cellsOf t)),by simp[part,hr,iS w hi],_,rfl,bn⟩
 ·obtain⟨⟨d,hd⟩,hr⟩:=tW (P:=P) w dY;simp  at h3;have aS:off<us.size:=by grind
  have Vp:off<cs.length:=by omega
  refine⟨us[off],by simp[part,hr,aS],?_⟩;have e:cs[off]=c:=by
   have:=congrArg (·[0]?) h2;grind
  have:=h.get off Vp (by omega);show qA M c us[off];simp_all
theorem Vq {P M w}(ok:Ok M)(hM:M.H=w.heap){s x v f u rx}(hx:zX M x rx)
  (h:yQ (UE P s x f) v u):qM P (Instr.field s rx f) M w v u:=by
 unfold UE at h;split at h
 ·rename_i fs cs hs;split at h
  ·rename_i fd hf;split at h
   ·rename_i vs hc;obtain⟨h',rfl⟩:=UW h;obtain⟨us,rfl,oV⟩:=hx;obtain⟨rv,hr,hv⟩:=yUe (P:=P) (w:=w) oV hc h';exact qM.pure ok hM (by simp[Instr.field,run_underlying hs,hf,asAgg,hr]) hv
   ·exact h.elim
  ·exact h.elim
 ·exact h.elim
theorem vQw {P M w}(ok:Ok M)(hM:M.H=w.heap){t x i v u rx ri}(hx:zX M x rx)(hi:zX M i ri)
  (h:yQ (UC P t x i) v u):qM P (Instr.index t rx ri) M w v u:=by
 unfold UC at h;split at h
 ·rename_i m e cs k n hu;have me:ri=.int k n:=hi;subst me;obtain⟨hc,h⟩:=gA h;simp only[Bool.and_eq_true] at hc;obtain⟨⟨c1,c2⟩,c3⟩:=hc;have c1:=Nat.eq_of_beq_eq_true c1;have c3:=Nat.eq_of_beq_eq_true c3;obtain⟨j,j1,j2,rfl,rfl,rfl⟩:=JJ h;obtain⟨us,rfl,oV⟩:=hx;have dY:eL P e=some false:=by
   grind
  have hj:j<cs.length:=by omega
  have eZ:mU cs j (P.cellsOf e)=some [cs[j]]:=by
   unfold mU;have:Nat.ble (j+P.cellsOf e) cs.length=true:=Nat.ble_eq_true_of_le (by omega);rw[this,c1];simp[List.take_one]
  obtain⟨rv,hr,hv⟩:=yUe (P:=P) (w:=w) oV eZ (v:=.c cs[j]) (by rw[dY];rfl);obtain⟨y,hy⟩:=oT (P:=P) (t:=e) (by omega);have hjm:(j:Int)<m:=by omega
  refine qM.pure ok hM (rv:=rv) ?_ ?_
  ·have h':¬m≤j:=by omega
   simp[Instr.index,asIntOf,run_underlying hu,h',iS w hy,c1,hr]
  simp_all
 ·exact h.elim
theorem vXc {P M w}(ok:Ok M)(hM:M.H=w.heap){t}{s:ByteArray}{i v u ri}(hi:zX M i ri)
  (h:yQ (UD P t s i) v u):qM P (Instr.index t (.string s) ri) M w v u:=by
 unfold UD at h;split at h
 ·rename_i k n hu;have me:ri=.int k n:=hi;subst me;obtain⟨hb,rfl,rfl⟩:=l9 h;unfold zB Jv at hb;simp only[Bool.and_eq_true,decide_eq_true_eq,List.length_map] at hb;obtain⟨b1,b2⟩:=hb;have aS:n.toNat<s.data.toList.length:=by omega
  have dH:n.toNat<s.size:=by simpa using aS
  have dm:s[n.toNat]? =some s.data.toList[n.toNat]:=by
   rw[getElem?_pos s n.toNat dH];rfl
  have iU:(Jv s).getD n.toNat 0=(s.data.toList[n.toNat].toNat:Int):=by
   unfold Jv;rw[List.getD_eq_getElem?_getD,List.getElem?_map,List.getElem?_eq_getElem aS];rfl
  refine qM.pure ok hM (rv:=.int .u8 (s.data.toList[n.toNat].toNat:Int)) ?_ (by rw[iU];rfl);simp only[Instr.index,asIntOf];simp[run_underlying hu,b1,dm]
 ·exact h.elim
theorem Vr a b:iR a b=(a==b):=by cases a<;>cases b<;>rfl
theorem vZe {P M w}(ok:Ok M)(hM:M.H=w.heap){op k x y xt v u}(hs:op≠.shl∧op≠.shr)
  (h:yQ (yKz op k x y) v u):qM P (binOp op xt (.int k x) (.int k y)) M w v u:=by
 cases op with
 |shl=>simp_all
 |shr=>simp_all
 |quo=>
  obtain⟨h1,rfl,rfl⟩:=l9 h;simp  at h1;exact qM.pure ok hM (rv:=.int k (k.wrap (x.tdiv y))) (by simp[binOp,Op.intDiv,h1]) rfl
 |rem=>
  obtain⟨h1,rfl,rfl⟩:=l9 h;simp[Bool.not_eq_true'] at h1;exact qM.pure ok hM (rv:=.int k (x.tmod y)) (by simp[binOp,Op.intDiv,h1]) rfl
 |neq=>
  obtain⟨rfl,rfl⟩:=wR h;exact qM.pure ok hM (rv:=.bool (!decide (x=y))) (by simp[binOp,Op.intCmp,bne,BEq.beq]) rfl
 |eql=>
  obtain⟨rfl,rfl⟩:=wR h;exact qM.pure ok hM (rv:=.bool (decide (x=y))) (by simp[binOp,Op.intCmp,BEq.beq]) rfl
 |_=>
  obtain⟨rfl,rfl⟩:=wR h;exact qM.pure ok hM (rv:=_) (by simp[binOp];rfl) rfl
theorem vHk {P M w}(ok:Ok M)(hM:M.H=w.heap){op k j x y xt v u}(hs:op=.shl∨op=.shr)
  (h:yQ (yNo op k x y) v u):qM P (binOp op xt (.int k x) (.int j y)) M w v u:=by
 rcases hs with rfl|rfl
 ·obtain⟨h1,rfl,rfl⟩:=l9 h;simp only[Bool.not_eq_true',decide_eq_false_iff_not] at h1;exact qM.pure ok hM (rv:=.int k (k.wrap (x*2^(min y.toNat k.bits)))) (by simp only[binOp,Op.shift,h1,if_false];rfl) rfl
 ·obtain⟨h1,rfl,rfl⟩:=l9 h;simp only[Bool.not_eq_true',decide_eq_false_iff_not] at h1;exact qM.pure ok hM (rv:=.int k (x.fdiv (2^(min y.toNat k.bits)))) (by simp only[binOp,Op.shift,h1];rfl) rfl
def JL (P:Program)(eqT:TypeId→Bool):Prop:=∀t,eqT t=true→∀(M:zN) (xs ys:List qC) (us vs:Array Value) (r:Bool) (w:World),OA P t xs ys=some r→
 zO (qA M) xs us.toList→zO (qA M) ys vs.toList→P.eqGuardType P.depth t=false∧(Op.equal t (.agg us) (.agg vs)).run P w=.ok r w
def Bj:qC→qC→Option Bool
 |.int j a,.int k b=>bif gx j k then some (decide (a=b)) else none
 |.bool a,.bool b=>some (iR a b)
 |_,_=>none
theorem Vs {x y xs ys r}(h:gy (x::xs) (y::ys)=some r):∃b r',Bj x y=some b∧gy xs ys=some r'∧r=(b&&r'):=by
 have JM:(match Bj x y,gy xs ys with|some b,some r'=>some (b&&r')|_,_=>none)=some r→∃b r',Bj x y=some b∧gy xs ys=some r'∧r=(b&&r'):=by
  grind
 apply JM;rw[←h]
 match x,y with
 |.int j a,.int k b=>
  cases hk:gx j k<;>cases xs<;>cases ys<;>simp only[gy,Bj,hk,cond_true]<;>first|grind|rfl
 |.bool a,.bool b=>
  cases xs<;>cases ys<;>simp only[gy,Bj]<;>first|grind|rfl
 |.int _ _,.str _|.int _ _,.undef|.int _ _,.bool _|.int _ _,.fsl _ _ _|.int _ _,.nfl _ _ _|.int _ _,.nsl|.int _ _,.osl _ _|.int _ _,.bsl _ _ _|.int _ _,.ptr _ _|.int _ _,.eptr _ _ _|.int _ _,.fptr _ _ _ _|.int _ _,.mrow _ _ _|.int _ _,.mptr _ _|.int _ _,.meptr _ _ _ _|.int _ _,.nilp|.int _ _,.nilf|.int _ _,.nilm|.int _ _,.fn _ _|.int _ _,.map _
 |.bool _,.str _|.bool _,.undef|.bool _,.int _ _|.bool _,.fsl _ _ _|.bool _,.nfl _ _ _|.bool _,.nsl|.bool _,.osl _ _|.bool _,.bsl _ _ _|.bool _,.ptr _ _|.bool _,.eptr _ _ _|.bool _,.fptr _ _ _ _|.bool _,.mrow _ _ _|.bool _,.mptr _ _|.bool _,.meptr _ _ _ _|.bool _,.nilp|.bool _,.nilf|.bool _,.nilm|.bool _,.fn _ _|.bool _,.map _=>cases xs<;>cases ys<;>cases h
def Vt (b:Bool)(us:List Value):Value:=bif b then .agg us.toArray else us.getD 0 (.bool false)
theorem Eg {P:Program}:∀{a r xs},gQ (a++r) xs=true→gQ a (xs.take a.length)=true∧gQ r (xs.drop a.length)=true∧(xs.take a.length).length=a.length
 |[],r,xs,h=>⟨rfl,h,rfl⟩
 |k::a,r,xs,h=>by
  match k,xs,h with
  |some k,.int j n::xs,h=>
   have h':(gx j k&&gQ (a++r) xs)=true:=h;rw[Bool.and_eq_true] at h';obtain⟨h1,h2,h3⟩:=Eg (P:=P) h'.2;refine⟨?_,h2,by simp[h3]⟩;show(gx j k&&gQ a (xs.take a.length))=true;simp_all
  |none,.bool b::xs,h=>
   have h':gQ (a++r) xs=true:=h;obtain⟨h1,h2,h3⟩:=Eg (P:=P) h';exact⟨h1,h2,by simp[h3]⟩
theorem Vu:∀{a b c d r},a.length=b.length→gy (a++c) (b++d)=some r→∃r1 r2,gy a b=some r1∧gy c d=some r2∧r=(r1&&r2)
 |[],[],c,d,r,_,h=>⟨true,r,rfl,h,rfl⟩
 |x::a,y::b,c,d,r,hl,h=>by
  obtain⟨e,r',h1,h2,rfl⟩:=Vs h;obtain⟨r1,r2,h3,h4,rfl⟩:=Vu (by simp_all) h2;refine⟨e&&r1,r2,?_,h4,by grind⟩;have mk:∀{x y:qC} {xs ys:List qC} {b r':Bool},Bj x y=some b→gy xs ys=some r'→xs.length=ys.length→gy (x::xs) (y::ys)=some (b&&r'):=by
   intro x y xs ys b r' h1 h2 hl;cases x<;>cases y<;>first|(cases h1;done)|skip
   ·rename_i j m k n;simp[Bj] at h1;cases hk:gx j k with
    |false=>simp_all
    |true=>
     rw[hk] at h1;cases h1;cases xs<;>cases ys
     ·cases h2;simp[gy,hk]
     ·cases hl
     ·cases hl
     ·simp[gy,hk,h2]
   ·cases h1;cases xs<;>cases ys
    ·cases h2;simp[gy]
    ·cases hl
    ·cases hl
    ·simp[gy,h2]
  grind
def Vv (P:Program)(dd:Nat)(t:TypeId)(ks:List (Option IntKind)):Prop:=∃b,eL P t=some b∧(b=false→ks.length=1)∧∀(M:zN) (w:World) (us vs:List Value) (xs ys:List qC) (r:Bool),
 gQ ks xs=true→gQ ks ys=true→gy xs ys=some r→zO (qA M) xs us→zO (qA M) ys vs→(Op.equalIn dd t (Vt b us) (Vt b vs)).run P w=.ok r w
theorem sk:∀{ks xs},gQ ks xs=true→xs.length=ks.length
 |[],[],_=>rfl
 |some k::ks,.int j n::xs,h=>by
  have h':(gx j k&&gQ ks xs)=true:=h;rw[Bool.and_eq_true] at h';simp[sk h'.2]
 |none::ks,.bool b::xs,h=>by
  have h':gQ ks xs=true:=h;simp[sk h']
theorem O9 {P t b}(ht:eL P t=some b){us off w}(hn:off+P.cellsOf t≤us.size)(h1:b=false→P.cellsOf t=1)(h0:∃i,P.info? t=some i):
  (part t us off).run P w=.ok (Vt b ((us.toList.drop off).take (P.cellsOf t))) w:=by
 obtain⟨⟨d,hd⟩,hr⟩:=tW (P:=P) w ht;cases b with
 |true=>
  obtain⟨i,hi⟩:=h0;simp[part,hr,iS w hi]
  congr 2
  grind
 |false=>
  have h1:=h1 rfl;have aS:off<us.size:=by omega
  have e:us[off]? =some us[off]:=by simp
  have e2:(us.toList.drop off).take 1=[us[off]]:=by
   rw[List.drop_eq_getElem_cons (by omega)];simp
  simp[part,hr,e,h1,e2];rfl
theorem yJf {P dd M w us vs rec}:∀fs i ks xs ys r,(∀f∈fs,∀a,rec f.type=some a→Vv P dd f.type a)→
  Oz P rec i fs=some ks→gQ ks xs=true→gQ ks ys=true→gy xs ys=some r→zO (qA M) xs (us.toList.drop i)→zO (qA M) ys (vs.toList.drop i)→(Op.eqFields dd us vs fs).run P w=.ok r w
 |[],i,ks,xs,ys,r,_,hk,hx,hy,he,hu,hv=>by
  cases hk;cases xs with
  |cons _ _=>cases hx
  |nil=>cases ys with
   |cons _ _=>cases hy
   |nil=>cases he;rfl
 |f::fs,i,ks,xs,ys,r,bn,hk,hx,hy,he,hu,hv=>by
  unfold Oz at hk;cases hc:(Nat.beq f.offset i&& !(f.name== "_")) with
  |false=>rw[hc] at hk;cases hk
  |true=>
   rw[hc] at hk;rw[Bool.and_eq_true] at hc;have ho:f.offset=i:=by simpa using hc.1
   have hn:f.name≠ "_" :=by simpa using hc.2
   dsimp only[cond_true] at hk;split at hk
   ·rename_i a r0 ha ub;cases hl:(Nat.beq a.length (P.cellsOf f.type)&&Nat.blt 0 a.length) with
    |false=>rw[hl] at hk;cases hk
    |true=>
     rw[hl] at hk;cases hk;rw[Bool.and_eq_true] at hl;have Pb:0<a.length:=by have:=hl.2;simp[Nat.blt] at this;omega
     have hl:=Nat.eq_of_beq_eq_true hl.1;obtain⟨b,hb,kb,hE⟩:=bn f (List.mem_cons_self ..) a ha;obtain⟨x1,x2,x3⟩:=Eg (P:=P) hx;obtain⟨y1,y2,y3⟩:=Eg (P:=P) hy;have ex:xs=xs.take a.length++xs.drop a.length:=(List.take_append_drop _ _).symm;have ey:ys=ys.take a.length++ys.drop a.length:=(List.take_append_drop _ _).symm;rw[ex,ey] at he;obtain⟨r1,r2,e1,e2,rfl⟩:=Vu (by rw[x3,y3]) he;have Eh:=hu.length;have Vw:=hv.length;have Bk:=sk hx;have Bl:=sk hy;rw[List.length_append] at Bk Bl;have Bm:=hu.take a.length;have nU:=hv.take a.length;have Bn:=hu.drop a.length;have pV:=hv.drop a.length;rw[List.drop_drop] at Bn pV;have h0:∃i,P.info? f.type=some i:=by
      obtain⟨⟨d,hd⟩,_⟩:=tW (P:=P) w hb;exact OX hd
     have step:=hE M w _ _ _ _ r1 x1 y1 e1 Bm nU;rw[hl] at Bn pV;have ih:=yJf (w:=w) fs (i+P.cellsOf f.type) r0 _ _ r2 (fun g hg=>bn g (List.mem_cons_of_mem _ hg)) ub x2 y2 e2 (by rw[hl];exact Bn) (by rw[hl];exact pV);have bu:i+P.cellsOf f.type≤us.size:=by simp at Eh;omega
     have bv:i+P.cellsOf f.type≤vs.size:=by simp at Vw;omega
     have p1:=O9 (w:=w) hb bu (by grind) h0;have p2:=O9 (w:=w) hb bv (fun e=>by have:=kb e;omega) h0;rw[hl] at step;unfold Op.eqFields;rw[if_pos hn,ho];simp only[Sem.run_bind,p1,p2,Result.andThen_ok,step];cases r1 with
     |true=>grind
     |false=>simp
   ·cases hk
theorem vLo {P dd M w us vs e a}(hE:Vv P dd e a)(hl:a.length=P.cellsOf e)(Pb:0<a.length):∀c j xs ys r,
  gQ (A6 c a) xs=true→gQ (A6 c a) ys=true→gy xs ys=some r→zO (qA M) xs (us.toList.drop (j*P.cellsOf e))→zO (qA M) ys (vs.toList.drop (j*P.cellsOf e))→(Op.eqItems dd e (P.cellsOf e) us vs (List.range' j c)).run P w=.ok r w
 |0,j,xs,ys,r,hx,hy,he,hu,hv=>by
  cases xs with
  |cons _ _=>cases hx
  |nil=>cases ys with
   |cons _ _=>cases hy
   |nil=>cases he;rfl
 |c+1,j,xs,ys,r,hx,hy,he,hu,hv=>by
  obtain⟨b,hb,kb,O4⟩:=id hE;obtain⟨x1,x2,x3⟩:=Eg (P:=P) hx;obtain⟨y1,y2,y3⟩:=Eg (P:=P) hy;have ex:xs=xs.take a.length++xs.drop a.length:=(List.take_append_drop _ _).symm;have ey:ys=ys.take a.length++ys.drop a.length:=(List.take_append_drop _ _).symm;rw[ex,ey] at he;obtain⟨r1,r2,e1,e2,rfl⟩:=Vu (by rw[x3,y3]) he;have Eh:=hu.length;have Vw:=hv.length;have Bk:=sk hx;have Bl:=sk hy;have sm:(A6 (c+1) a).length=a.length+(A6 c a).length:=by show(a++A6 c a).length=_;rw[List.length_append]
  rw[sm] at Bk Bl;have Bm:=hu.take a.length;have nU:=hv.take a.length;have Bn:=hu.drop a.length;have pV:=hv.drop a.length;rw[List.drop_drop] at Bn pV;have h0:∃i,P.info? e=some i:=by
   obtain⟨⟨d,hd⟩,_⟩:=tW (P:=P) w hb;exact OX hd
  have step:=O4 M w _ _ _ _ r1 x1 y1 e1 Bm nU;have ej:j*P.cellsOf e+a.length=(j+1)*P.cellsOf e:=by rw[Nat.add_mul];omega
  rw[ej] at Bn pV;have ih:=vLo (w:=w) hE hl Pb c (j+1) _ _ r2 x2 y2 e2 Bn pV;have bu:j*P.cellsOf e+P.cellsOf e≤us.size:=by simp at Eh;omega
  have bv:j*P.cellsOf e+P.cellsOf e≤vs.size:=by simp at Vw;omega
  have p1:=O9 (w:=w) hb bu (by grind) h0;have p2:=O9 (w:=w) hb bv (fun e=>by have:=kb e;omega) h0;rw[hl] at step;rw[show List.range' j (c+1)=j::List.range' (j+1) c from rfl];simp only[Op.eqItems,Sem.run_bind,p1,p2,Result.andThen_ok,step];cases r1 with
  |true=>grind
  |false=>simp
theorem Vx {P} d:∀m t ks,P.keyTypeAt m t=true→DF P m t=some ks→Vv P (d+m) t ks
 |0,_,_,h,_=>by simp[Program.keyTypeAt] at h
 |m+1,t,ks,hk,h=>by
  unfold Program.keyTypeAt at hk;unfold DF at h;split at h
  ·rename_i k hu;cases h;refine⟨false,by unfold eL;rw[hu],fun _=>rfl,fun M w us vs xs ys r hx hy he sn iT=>?_⟩;have Bk:=sk hx;have Bl:=sk hy
   match xs,ys,us,vs,hx,hy,sn,iT,Bk,Bl with
   |[.int j a],[.int j' c],[u],[v],hx,hy,⟨Bm,_⟩,⟨nU,_⟩,_,_=>
    have e1:u=.int j a:=Bm;have e2:v=.int j' c:=nU;subst e1;subst e2;simp only[gy] at he;cases hk:gx j j' with
    |false=>rw[hk] at he;cases he
    |true=>
     rw[hk] at he;cases he;rw[←tL hk];exact run_equalIn_int (P:=P) w (d+m) t j k a c hu
  ·rename_i hu;cases h;refine⟨false,by unfold eL;rw[hu],fun _=>rfl,fun M w us vs xs ys r hx hy he sn iT=>?_⟩;have Bk:=sk hx;have Bl:=sk hy
   match xs,ys,us,vs,hx,hy,sn,iT,Bk,Bl with
   |[.bool a],[.bool c],[u],[v],hx,hy,⟨Bm,_⟩,⟨nU,_⟩,_,_=>
    have e1:u=.bool a:=Bm;have e2:v=.bool c:=nU;subst e1;subst e2;cases he;show(Op.equalIn (d+m+1) t (.bool a) (.bool c)).run P w=_;rw[run_equalIn_bool' (P:=P) w (d+m) t a c hu,Vr]
  ·rename_i fs hu;simp only[hu,Bool.and_eq_true,Bool.not_eq_true'] at hk;refine⟨true,by unfold eL;rw[hu],by simp,fun M w us vs xs ys r hx hy he sn iT=>?_⟩;have hf:P.fieldsOf t=fs:=by unfold Program.fieldsOf;rw[hu]
   have:=run_equalIn_struct (P:=P) w (d+m) t us.toArray vs.toArray (by rw[hf];exact hu) hk.2;rw[hf] at this;refine this.trans (yJf (rec:=DF P m) _ 0 ks xs ys r (fun f hf a ha=>?_) h hx hy he (by simpa using sn) (by simpa using iT));have hkf:=Array.all_eq_true_iff_forall_mem.1 hk.1.1 f (by grind);simp only[Bool.and_eq_true,bne_iff_ne,ne_eq] at hkf;exact Vx d m f.type a hkf.2 ha
  ·rename_i n e hu;simp only[hu] at hk;split at h
   ·rename_i a ha;cases hl:(Nat.beq a.length (P.cellsOf e)&&Nat.blt 0 a.length) with
    |false=>rw[hl] at h;cases h
    |true=>
     rw[hl] at h;cases h;rw[Bool.and_eq_true] at hl;have Pb:0<a.length:=by have:=hl.2;simp[Nat.blt] at this;omega
     have hl:=Nat.eq_of_beq_eq_true hl.1;refine⟨true,by unfold eL;rw[hu],(by simp),fun M w us vs xs ys r hx hy he sn iT=>?_⟩;obtain⟨i,hi⟩:=oT (P:=P) (t:=e) (by omega);have:=run_equalIn_array (P:=P) w (d+m) us.toArray vs.toArray hu hi;refine this.trans ?_;rw[List.range_eq_range'];exact vLo (Vx d m e a hk ha) hl Pb n 0 xs ys r hx hy he (by simpa using sn) (by simpa using iT)
   ·cases h
  ·cases h
theorem JN {P eqT}(h:∀t,eqT t=true→(P.keyTypeAt 8 t&& !P.eqGuardType P.depth t)=true):JL P eqT:=by
 intro t ht M xs ys us vs r w he hu hv;have h:=h t ht;simp  at h;refine⟨h.2,?_⟩;unfold OA at he;split at he
 ·rename_i ks hk;unfold yN7 at hk;split at hk
  ·cases hc:(gQ ks xs&&gQ ks ys) with
   |false=>simp_all
   |true=>
    rw[hc] at he;rw[Bool.and_eq_true] at hc;obtain⟨b,hb,_,hE⟩:=Vx (P:=P) 9992 8 t ks h.1 hk;have:b=true:=by
     unfold eL at hb;simp_all
    subst this;exact hE M w us.toList vs.toList xs ys r hc.1 hc.2 he hu hv
  ·cases hk
 ·cases he
theorem yIa {P t}(h:OB P t=true):P.underlying t=some .bool:=by
 unfold OB at h;grind
theorem Vy {P eqT}(heq:JL P eqT){M w}(ok:Ok M)(hM:M.H=w.heap){op xt ox oy x y v u rx ry}
  (hx:zX M x rx) (hy:zX M y ry) (h:yQ (Uz P eqT op xt ox oy x y) v u):qM P (do eqGuard op xt ox oy rx ry;binOp op xt rx ry) M w v u:=by
 have quiet:∀{k j:IntKind} {a b:Int},(eqGuard op xt ox oy (.int k a) (.int j b)).run P w=.ok () w:=by
  unfold eqGuard;simp
 have step:∀{a b:Value},(eqGuard op xt ox oy a b).run P w=.ok () w→qM P (binOp op xt a b) M w v u→qM P (do eqGuard op xt ox oy a b;binOp op xt a b) M w v u:=by
  rintro a b hg ⟨rv,w',M',h1,h2⟩
  exact⟨rv,w',M',by simp_all,h2⟩
 unfold Uz at h;split at h
 ·have e1:rx=_:=hx;have e2:ry=_:=hy;subst e1;subst e2;exact step quiet (vHk ok hM (.inl rfl) h)
 ·have e1:rx=_:=hx;have e2:ry=_:=hy;subst e1;subst e2;exact step quiet (vHk ok hM (.inr rfl) h)
 ·obtain⟨hk,h2⟩:=gA h;have hk:=tL hk;subst hk;have e1:rx=_:=hx;have e2:ry=_:=hy;subst e1;subst e2;exact step quiet (vZe ok hM (by grind) h2)
 ·rename_i a b;have e1:rx=_:=hx;have e2:ry=_:=hy;subst e1;subst e2;obtain⟨hb,h2⟩:=gA h;obtain⟨rfl,rfl⟩:=wR h2;have hr:=run_equalIn_bool' (P:=P) w 9999 xt a b (yIa hb);refine qM.pure ok hM (rv:=.bool (iR a b)) ?_ rfl;have so:(Op.equal xt (.bool a) (.bool b)).run P w=.ok (a==b) w:=hr;have hg:(eqGuard .eql xt ox oy (.bool a) (.bool b)).run P w=.ok () w:=by rfl
  simp only[Sem.run_bind,hg,Result.andThen_ok,binOp,so,Sem.run_pure,Vr]
 ·rename_i a b;have e1:rx=_:=hx;have e2:ry=_:=hy;subst e1;subst e2;obtain⟨hb,h2⟩:=gA h;obtain⟨rfl,rfl⟩:=wR h2;have hr:=run_equalIn_bool' (P:=P) w 9999 xt a b (yIa hb);refine qM.pure ok hM (rv:=.bool (!iR a b)) ?_ rfl;have so:(Op.equal xt (.bool a) (.bool b)).run P w=.ok (a==b) w:=hr;have hg:(eqGuard .neq xt ox oy (.bool a) (.bool b)).run P w=.ok () w:=by rfl
  simp only[Sem.run_bind,hg,Result.andThen_ok,binOp,so,Sem.run_pure,Vr]
 ·rename_i a b;have e1:rx=_:=hx;have e2:ry=_:=hy;subst e1;subst e2;obtain⟨rfl,rfl⟩:=wR h;have hg:(eqGuard .eql xt ox oy (.string ⟨(nM a).toArray⟩) (.string ⟨(nM b).toArray⟩)).run P w=.ok () w:=by rfl
  refine qM.pure ok hM (rv:=.bool (oR a b)) ?_ rfl;simp only[hg,binOp_string_eql,ByteArray.toList_eq];rfl
 ·rename_i a b;have e1:rx=_:=hx;have e2:ry=_:=hy;subst e1;subst e2;obtain⟨rfl,rfl⟩:=wR h;have hg:(eqGuard .neq xt ox oy (.string ⟨(nM a).toArray⟩) (.string ⟨(nM b).toArray⟩)).run P w=.ok () w:=by rfl
  refine qM.pure ok hM (rv:=.bool (!oR a b)) ?_ rfl;simp only[hg,Result.andThen_ok,binOp_string_neq,ByteArray.toList_eq,Sem.run_pure];rfl
 ·obtain⟨ht,h⟩:=gA h;split at h
  ·rename_i r hr;obtain⟨rfl,rfl⟩:=wR h;obtain⟨us,rfl,oV⟩:=hx;obtain⟨vs,rfl,dI⟩:=hy;obtain⟨g1,g2⟩:=heq xt ht M _ _ us vs r w hr oV dI;exact step (run_eqGuard_agg w _ xt ox oy us vs g1) (qM.pure ok hM (rv:=.bool r) (by simp only[binOp,Sem.run_bind,g2,Result.andThen_ok];rfl) rfl)
  ·exact h.elim
 ·obtain⟨ht,h⟩:=gA h;split at h
  ·rename_i r hr;obtain⟨rfl,rfl⟩:=wR h;obtain⟨us,rfl,oV⟩:=hx;obtain⟨vs,rfl,dI⟩:=hy;obtain⟨g1,g2⟩:=heq xt ht M _ _ us vs r w hr oV dI;exact step (run_eqGuard_agg w _ xt ox oy us vs g1) (qM.pure ok hM (rv:=.bool (!r)) (by simp only[binOp,Sem.run_bind,g2];rfl) rfl)
  ·exact h.elim
 ·exact h.elim
theorem vXw {P M w}(ok:Ok M)(hM:M.H=w.heap){op x v u rx}(hx:zX M x rx)(h:yQ (UA op x) v u):
  qM P (Op.unary op rx) M w v u:=by
 unfold UA at h;split at h
 ·obtain⟨rfl,rfl⟩:=wR h;have e1:rx=_:=hx;subst e1;exact qM.pure ok hM rfl rfl
 ·obtain⟨rfl,rfl⟩:=wR h;have e1:rx=_:=hx;subst e1;exact qM.pure ok hM rfl rfl
 ·exact h.elim
theorem Bo {P w k}{i:Int}{y:Nat}{c}(h0:0≤i)(h1:i≤y):(Instr.sliceBound (.int k i) y c).run P w=.ok i.toNat w:=by
 simp[Instr.sliceBound,asIntOf,h0,h1]
def Ei (M:zN):Option zZ→Option Value→Prop
 |none,none=>True
 |some a,some v=>zX M a v
 |_,_=>False
theorem JO {P M w b len cap l u lo hi kJ ke}(mf:Ei M lo kJ)(lG:Ei M hi ke)(hc:len≤cap)
  (h:xa len lo hi=some (true,l,u)):(Instr.sliceBounds b len cap kJ ke none).run P w=.ok (l,u,cap) w∧l≤u∧u≤len∧(lo=none→l=0)∧(hi=none→u=len):=by
 unfold xa at h;split at h
 ·cases h;cases kJ with
  |some _=>exact mf.elim
  |none=>cases ke with
   |some _=>exact lG.elim
   |none=>exact⟨by rfl,by simp,by simp,by simp,by simp⟩
 ·rename_i k i;simp  at h;obtain⟨⟨h0,h1⟩,rfl,rfl⟩:=h;cases ke with
  |some _=>exact lG.elim
  |none=>cases kJ with
   |none=>exact mf.elim
   |some v=>
    have e:v=.int k i:=mf;subst e;refine⟨?_,by omega,by simp,by simp,by simp⟩;simp[Instr.sliceBounds];rw[Bo h0 h1];rfl
 ·rename_i k i;simp  at h;obtain⟨⟨h0,h1⟩,rfl,rfl⟩:=h;cases kJ with
  |some _=>exact mf.elim
  |none=>cases ke with
   |none=>exact lG.elim
   |some v=>
    have e:v=.int k i:=lG;subst e;refine⟨?_,by simp,by omega,by simp,by simp⟩;simp only[Instr.sliceBounds,Sem.run_bind,Sem.run_pure,Result.andThen_ok];rw[Bo h0 (by omega)];rfl
 ·rename_i k i k' i';simp  at h;obtain⟨⟨⟨h0,h1⟩,h2⟩,rfl,rfl⟩:=h;cases kJ with
  |none=>exact mf.elim
  |some v=>cases ke with
   |none=>exact lG.elim
   |some v'=>
    have e:v=.int k i:=mf;have e':v'=.int k' i':=lG;subst e;subst e';refine⟨?_,by omega,by omega,by simp,by simp⟩;simp[Instr.sliceBounds];rw[Bo (by omega) (by omega)];simp;rw[Bo h0 (by omega)];rfl
 ·cases h
def oY (A:Option Addr)(l c size:Nat):Option Addr:=if c=l then A else A.map (·.add (l*size))
theorem jJ.cut {H C lo n l u A c}(h:jJ H C lo n (.slice A n c))(h1:l≤u)(h2:u≤n):
  jJ H C (lo+l) (u-l) (.slice (oY A l c C.sz) (u-l) (c-l)):=by
 obtain⟨A',c',e,h⟩:=h;obtain⟨rfl,_,rfl⟩:=e;refine⟨_,_,rfl,?_⟩;cases hB:C.blk with
 |none=>
  rw[hB] at h;obtain⟨rfl,rfl,rfl⟩:=h;refine⟨?_,by omega,by omega⟩;unfold oY;simp
 |some B=>
  rw[hB] at h;obtain⟨hc,a,rfl,ha,hs⟩:=h;refine⟨by omega,?_⟩;unfold oY;by_cases e:c=l
  ·simp_all
  ·rw[if_neg e];refine⟨a+l*C.sz,by simp[Addr.add_lit],.inr ?_,by grind⟩;grind
theorem jJ.cut' {H C lo n l u A c}(h:jJ H C lo n (.slice A n c))(h1:l≤u)(h2:u≤c):
  jJ H C (lo+l) (u-l) (.slice (oY A l c C.sz) (u-l) (c-l)):=by
 obtain⟨A',c',e,h⟩:=h;obtain⟨rfl,_,rfl⟩:=e;refine⟨_,_,rfl,?_⟩;cases hB:C.blk with
 |none=>
  rw[hB] at h;obtain⟨rfl,rfl,rfl⟩:=h;refine⟨?_,by omega,by omega⟩;unfold oY;simp
 |some B=>
  rw[hB] at h;obtain⟨hc,a,rfl,ha,hs⟩:=h;refine⟨by omega,?_⟩;unfold oY;by_cases e:c=l
  ·simp_all
  ·rw[if_neg e];refine⟨a+l*C.sz,by simp[Addr.add_lit],.inr ?_,by grind⟩;grind
theorem Vz {H F t}{xs:List t.den}{A n c l u}(h:qH H F (.sl t) xs (fun _=>some (.slice A n c)))(h1:l≤u)(h2:u≤n):
  qH H F (.sl t) (qS xs l (u-l)) (fun _=>some (.slice (oY A l c t.size) (u-l) (c-l))):=by
 simp[qH] at h⊢;obtain⟨A',n',c',⟨rfl,rfl,rfl⟩,hn,hc,h⟩:=h;have hl:=Eb (xs:=xs) (lo:=l) (n:=u-l) (by omega);refine⟨_,_,_,⟨rfl,rfl,rfl⟩,hl.symm,by omega,?_⟩;by_cases e0:u-l=0
 ·refine .inl ⟨by grind,fun hA=>?_⟩;rcases h with⟨rfl,h0⟩|⟨B,o,rfl,_⟩
  ·cases A with
   |none=>simp_all
   |some a=>
    unfold oY at hA;grind
  ·unfold oY at hA;grind
 ·rcases h with⟨rfl,_⟩|⟨B,o,rfl,hB,hE⟩
  ·simp_all
  ·refine .inr ⟨B,o+l*t.size,?_,hB,fun i hi=>?_⟩
   ·unfold oY;rw[if_neg (by omega)];simp[Addr.add_lit]
   ·obtain⟨bI,e1⟩:=O3 hi;grind
theorem yKm {P w t e A n c l u kJ ke}(hu:P.underlying t=some (.slice e))(he:0<P.cellsOf e)
  (hb:(Instr.sliceBounds true n c kJ ke none).run P w=.ok (l,u,c) w):
  (Instr.sliceAt t (.slice A n c) kJ ke none).run P w=.ok (.slice (oY A l c (P.cellsOf e)) (u-l) (c-l)) w:=by
 obtain⟨y,hy⟩:=oT he;simp[Instr.sliceAt,run_underlying hu,Instr.slice,hb,iS w hy,oY]
theorem ySi {M}:∀{vs us ns},A9 vs=some ns→zO (qA M) vs us→us=ns.map (.int .i64 ·)∧vs=ns.map (.int .i64 ·)
 |[],[],ns,h,_=>by cases h;simp
 |v::vs,u::us,ns,h,hh=>by
  unfold A9 at h;split at h
  ·simp_all
  ·rename_i n l heq;cases heq;split at h
   ·rename_i r hr;cases h;obtain⟨e1,e2⟩:=ySi hr hh.2;have:u=.int .i64 n:=hh.1;simp_all
   ·cases h
  ·cases h
theorem yXh {M}(ok:Ok M){id own cells}(an:M.h id=some (.box own cells)):
  ∃M',M'.H=M.H∧M'.h=yP M.h id (.box false cells)∧Ok M'∧yT M M'∧M'.h id=some (.box false cells):=by
 cases own with
 |false=>exact⟨M,rfl,(Ea an).symm,ok,yT.refl M,an⟩
 |true=>
  obtain⟨C,hC,hO⟩:=ok.obj id _ an;have tX:vC (M.freeze id (.box false cells) C) (.box false cells) C:=by
   have x:yV M (M.freeze id (.box false cells) C):=⟨fun _ C h=>⟨C,h,C.le_refl⟩,fun _ h=>.inl h,fun _ h=>.inl h,fun _ _=>rfl,fun _ _=>rfl,fun _ _=>rfl⟩;obtain⟨B,vals,e,h1,h2,h3,h4,h5⟩:=hO.ext x fun _ _ _=>rfl
   exact⟨B,vals,e,h1,h2,h3,h4,fun _=>.inr (fS h1)⟩
  have:=zN.freeze_ok ok an rfl hC rfl tX;exact⟨M.freeze id _ C,rfl,rfl,this.1,this.2,yW _ _ _⟩
theorem VA {P}{M}{w}(ok:Ok M)(hM:M.H=w.heap){t}{x v}{lo hi mx u rx kJ ke Ej}
  (hx:zX M x rx) (mf:Ei M lo kJ) (lG:Ei M hi ke) (JP:Ei M mx Ej) (h:yQ (DS P M.h t x lo hi mx) v u):qM P (Instr.sliceAt t rx kJ ke Ej) M w v u:=by
 unfold DS at h;split at h
 ·rename_i e sh ty xs hu;cases Ej with
  |some _=>exact JP.elim
  |none=>
  obtain⟨hz,h⟩:=gA h;have hz:=Nat.eq_of_beq_eq_true hz;split at h
  ·rename_i gV l u' hc;obtain⟨rfl,rfl,rfl⟩:=l9 h;have pW:qH M.H (bif sh then M.G else M.F) (.sl ty) xs (fun _=>some rx):=hx;have Ek:=pW;simp only[qH,Option.some.injEq] at Ek;obtain⟨A,m,c,rfl,rfl,mb,_⟩:=Ek;obtain⟨b1,b2,b3,b4,b5⟩:=JO (P:=P) (w:=w) (b:=true) mf lG mb hc;refine qM.pure ok hM (yKm hu (by rw[hz];exact ty.size_pos) b1) ?_;have key:=Vz pW b2 b3;rw[←hz] at key;show qH _ _ _ _ _;split
   ·rw[b4 rfl,b5 rfl] at key⊢
    simpa[qS] using key
   ·rw[b5 rfl] at key⊢;have:qS xs l (xs.length-l)=xs.drop l:=by simp only[qS];rw[List.take_of_length_le (by simp)]
    rw[this] at key;exact key
   ·rw[b4 rfl] at key⊢
    simpa[qS] using key
   ·exact key
  ·exact h.elim
 ·rename_i e id r hu;cases Ej with
  |some _=>exact JP.elim
  |none=>
  split at h
  ·rename_i own ty xs an;obtain⟨hz,h⟩:=gA h;have hz:=Nat.eq_of_beq_eq_true hz;split at h
   ·rename_i gV l u' hc;obtain⟨rfl,rfl,rfl⟩:=l9 h;obtain⟨C,hC,hS⟩:=hx;obtain⟨C',aF,hO⟩:=ok.obj _ _ an;rw[hC] at aF;cases aF;have hlen:=hO.1;have dH:=hO.2.1;have key:∀uc m,uc+m≤C.len→jJ M.H C uc m rx→UU C uc rx→xa (match hi with|none=>m|some _=>C.len-uc) lo hi=some (true,l,u')→
      qM P (Instr.sliceAt t rx kJ ke none) M w (.c (.osl id (some (uc+l,u'-l)))) []:=by
     intro uc m hm oX iV mb;have hS0:=oX;clear hS;obtain⟨A,c,rfl,_⟩:=hS0;obtain⟨_,_,_,iV,JQ⟩:=iV;cases iV;have VB:m≤c:=by
      obtain⟨A',c',e,VC⟩:=oX;simp only[Value.slice.injEq] at e;obtain⟨rfl,_,rfl⟩:=e;cases hB:C.blk with
      |none=>rw[hB] at VC;omega
      |some B=>rw[hB] at VC;exact VC.1
     have hb:∃k,(Instr.sliceBounds true m c kJ ke none).run P w=.ok (l,u',c) w∧l≤u'∧u'≤k∧k≤c∧uc+k≤C.len:=by
      cases hi with
      |none=>
       obtain⟨b1,b2,b3,b4,b5⟩:=JO (P:=P) (w:=w) (b:=true) mf lG VB mb;exact⟨m,b1,b2,b3,VB,hm⟩
      |some y=>
       have hk:C.len-uc≤c:=by omega
       obtain⟨b1,b2,b3,b4,b5⟩:=JO (P:=P) (w:=w) (b:=true) mf lG hk mb;refine⟨C.len-uc,?_,b2,b3,hk,by omega⟩;cases ke with
       |none=>exact lG.elim
       |some ry=>exact b1
     obtain⟨k,b1,b2,b3,b6,b7⟩:=hb;refine qM.pure ok hM (yKm hu (by rw[hz];exact ty.size_pos) b1) ⟨C,hC,by omega,?_,_,_,_,rfl,by omega⟩;have:=jJ.cut' oX b2 (by grind);rw[hz,←dH];exact this
    cases r with
    | none => exact key 0 C.len (by omega) hS (by
      obtain⟨A,c,rfl,h⟩:=hS;refine⟨A,_,c,rfl,?_⟩;cases hB:C.blk with
      |none=>rw[hB] at h;omega
      | some B => rw [hB] at h; have := h.1; omega) (by
      unfold UG at hc;rw[←hlen] at hc;cases hi<;>exact hc)
    | some p => exact key p.1 p.2 hS.1 hS.2.1 hS.2.2 (by
      unfold UG at hc;rw[←hlen] at hc;cases hi<;>exact hc)
   ·exact h.elim
  ·exact h.elim
 ·rename_i e km m id hu;split at h
  ·rename_i own ty xs an;obtain⟨hz,h⟩:=gA h;have hz:=Nat.eq_of_beq_eq_true hz;split at h
   ·skip
    rename_i a b gV l u' _ hc;obtain⟨fT,rfl,rfl⟩:=l9 h;simp only[Bool.and_eq_true,decide_eq_true_eq] at fT;obtain⟨⟨fT,h1⟩,h2⟩:=fT;subst fT;obtain⟨C,hC,hS⟩:=hx;obtain⟨C',aF,hO⟩:=ok.obj _ _ an;rw[hC] at aF;cases aF;have hlen:=hO.1;obtain⟨A,c,rfl,hS⟩:=hS;have VB:C.len≤c:=by
     cases hB:C.blk with
     |none=>rw[hB] at hS;omega
     |some B=>rw[hB] at hS;exact hS.1
    cases Ej with
    |none=>exact JP.elim
    |some rm=>
     have hrm:rm=.int km m:=JP;subst hrm;obtain⟨b1,b2,b3,b4,b5⟩:=JO (P:=P) (w:=w) (b:=true) mf lG (Nat.le_refl xs.length) hc;obtain⟨i,hi⟩:=oT (P:=P) (t:=e) (by rw[hz];exact ty.size_pos);cases kJ with
     |none=>exact mf.elim
     |some rl=>cases ke with
      |none=>exact lG.elim
      |some rh=>
       have hbb:∃k1 i1 k2 i2,rl=.int k1 i1∧rh=.int k2 i2∧0≤i1∧i1≤i2∧i2≤(xs.length:Int)∧l=i1.toNat∧u'=i2.toNat:=by
        unfold xa at hc;split at hc
        ·rename_i e1 _;cases e1
        ·rename_i e1;cases e1
        ·rename_i e1 _;cases e1
        ·rename_i k i k' i' e1 e2;cases e1;cases e2;simp only[Option.some.injEq,Prod.mk.injEq,Bool.and_eq_true,decide_eq_true_eq] at hc;obtain⟨⟨⟨q0,q1⟩,q2⟩,rfl,rfl⟩:=hc;exact⟨k,i,k',i',mf,lG,q0,q1,q2,rfl,rfl⟩
        ·cases hc
       obtain⟨k1,i1,k2,i2,rfl,rfl,q0,q1,q2,rfl,rfl⟩:=hbb;have hr:∃v,(Instr.sliceAt t (.slice A C.len c) (some (.int k1 i1)) (some (.int k2 i2)) (some (.int km m))).run P w=.ok v w∧v.one1=true:=by
        refine⟨.slice (if m.toNat=i1.toNat then A else A.map (·.add (i1.toNat*P.cellsOf e))) (i2.toNat-i1.toNat) (m.toNat-i1.toNat),?_,rfl⟩;have e1:=Bo (P:=P) (w:=w) (k:=km) (i:=m) (y:=c) (c:=.slice3Acap) (by omega) (by omega);have e2:=Bo (P:=P) (w:=w) (k:=k2) (i:=i2) (y:=m.toNat) (c:=.slice3B) (by omega) (by omega);have e3:=Bo (P:=P) (w:=w) (k:=k1) (i:=i1) (y:=i2.toNat) (c:=.slice3C) (by omega) (by omega);simp[Instr.sliceAt,run_underlying hu,Instr.slice,Instr.sliceBounds,e1,e2,e3,iS w hi]
       obtain⟨v,hr,hv⟩:=hr;exact qM.pure ok hM hr hv
   ·exact h.elim
  ·exact h.elim
 ·rename_i n e id off hu;cases Ej with
  |some _=>exact JP.elim
  |none=>
  obtain⟨hz,h⟩:=gA h;have hz:=Nat.eq_of_beq_eq_true hz;obtain⟨y,hy⟩:=oT (P:=P) (t:=e) (by omega);split at h
  ·rename_i own cells an;obtain⟨C,B,hC,hB,rfl⟩:=hx;split at h
   ·obtain⟨_,h⟩:=gA h;obtain⟨rfl,rfl⟩:=wR h;have VD:kJ=none:=by cases kJ with
     |none=>rfl
     |some _=>exact mf.elim
    have VE:ke=none:=by cases ke with
     |none=>rfl
     |some _=>exact lG.elim
    subst VD;subst VE;refine qM.pure ok hM (rv:=.slice (some ⟨B,off,none⟩) n n) ?_ ⟨C,B,hC,hB,rfl⟩;simp[Instr.sliceAt,run_underlying hu,kI,Instr.sliceBounds,iS w hy,Addr.add_lit]
   ·split at h
    ·rename_i vs eZ;split at h
     ·rename_i ns gV l u' VF hc;obtain⟨rfl,rfl,rfl⟩:=gT h;obtain⟨b1,b2,b3,b4,b5⟩:=JO (P:=P) (w:=w) (b:=false) mf lG (Nat.le_refl n) hc;obtain⟨M',a1,a2,a3,a4,a5⟩:=yXh ok an;obtain⟨C1,iW,le⟩:=a4.ext.κ id C hC;obtain⟨C2,hC2,hO⟩:=a3.obj id _ a5;rw[iW] at hC2;cases hC2;obtain⟨B',vals,ev,k1,k2,k3,k4,k5⟩:=hO;rw[le.blk,hB] at k1;cases k1;obtain⟨q1,q2,q3⟩:=JE eZ;have bn:=yH5 k4 eZ;obtain⟨e1,e2⟩:=ySi VF bn;have hlen:ns.length=n:=by rw[e2] at q3;simpa[hz] using q3
      refine⟨.slice (some (if n=l then⟨B,off,none⟩ else⟨B,off+l*P.cellsOf e,none⟩)) (u'-l) (n-l),w,M',?_,rfl,rfl,rfl,a1.trans hM,by cases own with
       |true=>exact a2
       |false=>rw[a2];exact Ea an,a3,a4,?_⟩
      ·simp[Instr.sliceAt,run_underlying hu,kI,b1,iS w hy,Addr.add_lit]
      ·show qH M'.H (bif true then M'.G else M'.F) (.sl (.int .i64)) (qS ns l (u'-l)) (fun _=>some _);simp only[qH,Option.some.injEq,Value.slice.injEq];have hl:=Eb (xs:=ns) (lo:=l) (n:=u'-l) (by omega);refine⟨_,_,_,⟨rfl,rfl,rfl⟩,hl.symm,by omega,?_⟩;by_cases e0:u'-l=0
       ·exact by grind
       ·refine .inr ⟨B,off+l*P.cellsOf e,by rw[if_neg (by omega)],k5 rfl,fun i hi=>?_⟩;obtain⟨bI,e3⟩:=O3 hi;rw[e3,hz];simp only[qH,Ty.size,Nat.mul_one,Nat.add_zero,yY,k3];have e4:(vals.extract off (off+n)).toList[l+i]? =(ns.map (Value.int .i64 ·))[l+i]? :=by rw[e1]
        simp only[Array.getElem?_toList,List.getElem?_map,List.getElem?_eq_getElem bI,Option.map_some] at e4;rw[Array.getElem?_extract] at e4;split at e4
        ·rw[Nat.add_assoc];exact e4
        ·cases e4
     ·exact h.elim
    ·exact h.elim
  ·exact h.elim
 ·exact h.elim
end Go.Ab
