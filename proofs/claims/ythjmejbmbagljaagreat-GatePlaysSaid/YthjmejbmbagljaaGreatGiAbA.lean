/- part 0 -/
import Derived.Calls
import Derived.Orders
import Derived.KernelRfl
import Derived.Laws.Append
import Derived.Laws.AppendOwn
import Derived.Laws.MakeOwn
import Derived.Laws.IdiomCopy
import Derived.Laws.StructEq
import Derived.Laws.CopyRow
import Derived.ChangeKeysEq
set_option linter.unusedVariables false
namespace Go.Ab
inductive Ty where
 |int (k:IntKind)|bool|sl (t:Ty)|pair (a b:Ty)
abbrev Ty.den:Ty→Type
 |.int _=>Int|.bool=>Bool|.sl t=>List t.den|.pair a b=>a.den×b.den
def Ty.size:Ty→Nat
 |.int _=>1|.bool=>1|.sl _=>1|.pair a b=>a.size+b.size
def Ty.flat:Ty→Bool
 |.int _|.bool=>true|.sl _=>false|.pair a b=>a.flat&&b.flat
def Ty.dflt:(t:Ty)→t.den
 |.int _=>(0:Int)|.bool=>false|.sl t=>([]:List t.den)|.pair a b=>(a.dflt,b.dflt)
def gq:IntKind→IntKind→Bool
 |.i8,.i8|.i16,.i16|.i32,.i32|.i64,.i64|.u8,.u8|.u16,.u16|.u32,.u32|.u64,.u64=>true
 |_,_=>false
theorem tI {a b}(h:gq a b=true):a=b:=by cases a<;>cases b<;>first|rfl|cases h
def rQ:Ty→Ty→Bool
 |.int j,.int k=>gq j k
 |.bool,.bool=>true
 |.sl a,.sl b=>rQ a b
 |.pair a b,.pair c d=>rQ a c&&rQ b d
 |_,_=>false
theorem Jt:∀{a b},rQ a b=true→a=b
 |.int j,.int k,h=>congrArg Ty.int (tI h)
 |.bool,.bool,_=>rfl
 |.sl a,.sl b,h=>congrArg Ty.sl (Jt (a:=a) (b:=b) h)
 |.pair a b,.pair c d,h=>by
  simp[rQ] at h;rw[Jt h.1,Jt h.2]
def im (a b:Ty)(xs:List a.den):Option (List b.den):=
 if h:rQ a b=true then some (Jt h▸xs) else none
inductive qC where
 |undef
 |int (k:IntKind) (n:Int)
 |bool (b:Bool)
 |fsl (sh:Bool) (t:Ty) (xs:List t.den)
 |nfl (sh:Bool) (t:Ty) (xs:List t.den)
 |nsl
 |osl (id:Nat) (r:Option (Nat×Nat))
 |bsl (id off len:Nat)
 |ptr (id off:Nat)
 |eptr (id i off:Nat)
 |fptr (sh:Bool) (t:Ty) (x:t.den) (off:Nat)
 |mrow (id i ver:Nat)
 |mptr (id i:Nat)
 |meptr (id i j ver:Nat)
 |nilp|nilf|nilm
 |fn (f:Nat) (cap:List Nat)
 |map (id:Nat)
 |str (xs:List Int)
inductive zY where
 |undef
 |skp
 |c (v:qC)
 |agg (vs:List qC)
 |tup (xs:List (Bool×List qC))
inductive Obj where
 |box (own:Bool) (cells:List qC)
 |robox (cells:List qC)
 |arr (own:Bool) (t:Ty) (xs:List t.den)
 |mat (ver:Nat) (xs:List (List Int))
 |pmat (ver:Nat) (xs:List (List Int)) (n:Nat)
 |imap (df:List (Int×Bool))
 |gone
abbrev Hp:=Nat→Option Obj
abbrev vG:=List (Nat×Obj)
def yM (h:Hp)(id:Nat)(o:Obj):Hp:=fun n=>bif Nat.beq n id then some o else h n
def qJ (h:Hp):vG→Hp
 |[]=>h
 |(id,o)::u=>qJ (yM h id o) u
structure St where
 t:Nat→zY
 h:Hp
def jX (t:Nat→zY)(d:Nat)(v:zY):Nat→zY:=fun n=>bif Nat.beq n d then v else t n
def j5 (t:Nat→zY)(d:Option Nat)(v:zY):Nat→zY:=match d with
 |some d=>jX t d v
 |none=>t
inductive yW where
 |alts (l:List (Bool×zY×vG))
 |call (X:Type) (x:Option X) (f:X→zY×vG)
 |call2 (X Y:Type) (x:Option (X⊕Y)) (f:X→zY×vG) (g:Y→zY×vG)
def yW.stuck:yW:=.alts []
def yW.one (v:zY):yW:=.alts [(true,v,[])]
def yW.when (c:Bool)(v:zY):yW:=.alts [(c,v,[])]
def T4 {R:Type}(K:zY→vG→Option R):List (Bool×zY×vG)→Option R
 |[]=>none
 |(c,v,u)::l=>bif c then K v u else T4 K l
def yW.elim {R}(s:yW)(K:zY→vG→Option R):Option R:=match s with
 |.alts l=>T4 K l
 |.call _ x f=>x.bind fun r=>K (f r).1 (f r).2
 |.call2 _ _ x f g=>x.bind fun r=>match r with
  |.inl a=>K (f a).1 (f a).2
  |.inr b=>K (g b).1 (g b).2
def AP:Value→qC
 |.int k n=>.int k n
 |.bool b=>.bool b
 |.slice none 0 0=>.nsl
 |.pointer none=>.nilp
 |.nilFunc=>.nilf
 |.map none=>.nilm
 |_=>.undef
def AQ:Value→Bool
 |.agg _|.tuple _=>false
 |_=>true
def T5:Value→zY
 |.agg cs=>bif cs.toList.all AQ then .agg (cs.toList.map AP) else .undef
 |.tuple _=>.undef
 |v=>.c (AP v)
def St.ev (st:St):Operand→zY
 |.tmp t=>st.t t
 |.const v=>T5 v
 |.global _=>.undef
 |.func f=>.c (.fn f [])
def cellsOf (sh:Bool):(t:Ty)→t.den→List qC
 |.int k,n=>[.int k n]
 |.bool,b=>[.bool b]
 |.sl t,xs=>[.fsl sh t xs]
 |.pair a b,p=>cellsOf sh a p.1++cellsOf sh b p.2
def T6 (k:IntKind):Nat→qC→Option Int
 |0,.int j n=>bif gq j k then some n else none
 |_,_=>none
def T7:Nat→qC→Option Bool
 |0,.bool b=>some b
 |_,_=>none
def T8 (t:Ty):Nat→qC→Option (List t.den)
 |0,.fsl true s xs=>im s t xs
 |0,.nsl=>some []
 |_,_=>none
def tJ:(t:Ty)→t.den→Nat→qC→Option t.den
 |.int k,_,off,v=>T6 k off v
 |.bool,_,off,v=>T7 off v
 |.sl t,_,off,v=>T8 t off v
 |.pair a b,p,off,v=>bif Nat.blt off a.size then(match tJ a p.1 off v with|some x=>some (x,p.2)|none=>none)
   else(match tJ b p.2 (off-a.size) v with|some y=>some (p.1,y)|none=>none)
def tK (t:Ty):t.den→Nat→List qC→Option t.den
 |x,_,[]=>some x
 |x,off,v::vs=>match tJ t x off v with
  |some y=>tK t y (off+1) vs
  |none=>none
def Ju (t:Ty)(vs:List qC):Option t.den:=bif Nat.beq vs.length t.size then tK t t.dflt 0 vs else none
def qO {α:Type}(xs:List α)(lo n:Nat):List α:=(xs.drop lo).take n
def j6 {α}(xs:List α):Option (Nat×Nat)→List α
 |none=>xs
 |some (lo,n)=>qO xs lo n
def fP:List (Option Ty)→Option Ty
 |[]=>none
 |[t]=>t
 |a::l=>match a,fP l with
  |some x,some y=>some (.pair x y)
  |_,_=>none
def Om (P:Program):Nat→TypeId→Option Ty
 |0,_=>none
 |d+1,t=>match P.underlying t with
  |some (.int k)=>some (.int k)
  |some .bool=>some .bool
  |some (.slice e)=>(Om P d e).map .sl
  |some (.struct fs)=>fP (fs.toList.map fun f=>Om P d f.type)
  |some (.array n e)=>fP (List.replicate n (Om P d e))
  |_=>none
def iq:Ty→List Value
 |.int k=>[.int k 0]
 |.bool=>[.bool false]
 |.sl _=>[.slice none 0 0]
 |.pair a b=>iq a++iq b
def T9:Value→Value→Bool
 |.int j a,.int k b=>gq j k&&decide (a=b)
 |.bool a,.bool b=>bif a then b else !b
 |.slice none 0 0,.slice none 0 0=>true
 |_,_=>false
def Jv:List Value→List Value→Bool
 |[],[]=>true
 |a::l,b::m=>T9 a b&&Jv l m
 |_,_=>false
def kB (P:Program)(e:TypeId):Option Ty:=match Om P 8 e,P.info? e with
 |some t,some i=>match i.zero with
  |some z=>bif Nat.beq i.size t.size&&Jv z.cells.toList (iq t) then some t else none
  |none=>none
 |_,_=>none
def eK (P:Program)(t:TypeId):Option Bool:=match P.underlying t with
 |some (.struct _)|some (.array _ _)=>some true
 |some _=>some false
 |none=>none
def zeroCells (P:Program)(t:TypeId):Option (List qC):=match P.info? t with
 |some i=>match i.zero with
  |some v=>bif Nat.beq v.cells.size i.size&&v.cells.toList.all AQ then some (v.cells.toList.map AP) else none
  |none=>none
 |none=>none
def rR (agg:Option Bool)(vs:List qC):Option zY:=match agg with
 |some true=>some (.agg vs)
 |some false=>match vs with
  |[v]=>some (.c v)
  |_=>none
 |none=>none
def yW.ofO:Option zY→yW
 |some v=>.one v
 |none=>.stuck
def mO (cells:List qC)(off n:Nat):Option (List qC):=
 bif Nat.ble (off+n) cells.length then some ((cells.drop off).take n) else none
def AR (cells:List qC)(off:Nat):List qC→Option (List qC)
 |[]=>some cells
 |v::vs=>bif Nat.blt off cells.length then AR (cells.set off v) (off+1) vs else none
def oN:zY→Option (List qC)
 |.c v=>some [v]
 |.agg vs=>some vs
 |_=>none
def tL (f:(n:Nat)→BitVec n→BitVec n→BitVec n)(k:IntKind)(x y:Int):Int:=
 k.wrap (f k.bits (BitVec.ofInt k.bits x) (BitVec.ofInt k.bits y)).toNat
def yTh (op:BinOp)(k:IntKind)(x y:Int):yW:=match op with
 |.add=>.one (.c (.int k (k.wrap (x+y))))
 |.sub=>.one (.c (.int k (k.wrap (x-y))))
 |.mul=>.one (.c (.int k (k.wrap (x*y))))
 |.quo=>.when (!decide (y=0)) (.c (.int k (k.wrap (x.tdiv y))))
 |.rem=>.when (!decide (y=0)) (.c (.int k (x.tmod y)))
 |.and=>.one (.c (.int k (tL (fun _ a b=>a&&&b) k x y)))
 |.or=>.one (.c (.int k (tL (fun _ a b=>a|||b) k x y)))
 |.xor=>.one (.c (.int k (tL (fun _ a b=>a^^^b) k x y)))
 |.andNot=>.one (.c (.int k (tL (fun _ a b=>a&&&~~~b) k x y)))
 |.eql=>.one (.c (.bool (decide (x=y))))
 |.neq=>.one (.c (.bool (!decide (x=y))))
 |.lss=>.one (.c (.bool (decide (x<y))))
 |.leq=>.one (.c (.bool (decide (x≤y))))
 |.gtr=>.one (.c (.bool (decide (x>y))))
 |.geq=>.one (.c (.bool (decide (x≥y))))
 |_=>.stuck
def vA0 (op:BinOp)(k:IntKind)(x y:Int):yW:=match op with
 |.shl=>.when (!decide (y<0)) (.c (.int k (k.wrap (x*2^(min y.toNat k.bits)))))
 |.shr=>.when (!decide (y<0)) (.c (.int k (x.fdiv (2^(min y.toNat k.bits)))))
 |_=>.stuck
def eL (a b:Bool):Bool:=bif a then b else !b
def gu:List qC→List qC→Option Bool
 |[],[]=>some true
 |[.int j a],[.int k b]=>bif gq j k then some (decide (a=b)) else none
 |.int j a::l,.int k b::m=>bif gq j k then(match gu l m with|some r=>some (decide (a=b)&&r)|none=>none) else none
 |[.bool a],[.bool b]=>some (eL a b)
 |.bool a::l,.bool b::m=>match gu l m with|some r=>some (eL a b&&r)|none=>none
 |_,_=>none
def On (P:Program)(rec:TypeId→Option (List (Option IntKind))):Nat→List Field→Option (List (Option IntKind))
 |_,[]=>some []
 | i, f :: l => bif Nat.beq f.offset i && !(f.name == "_") then (match rec f.type,On P rec (i+P.cellsOf f.type) l with
  |some a,some r=>bif Nat.beq a.length (P.cellsOf f.type)&&Nat.blt 0 a.length then some (a++r) else none
  |_,_=>none) else none
def AT {α:Type}:Nat→List α→List α
 |0,_=>[]
 |n+1,l=>l++AT n l
def DD (P:Program):Nat→TypeId→Option (List (Option IntKind))
 |0,_=>none
 |d+1,t=>match P.underlying t with
  |some (.int k)=>some [some k]
  |some .bool=>some [none]
  |some (.struct fs)=>On P (DD P d) 0 fs.toList
  |some (.array n e)=>match DD P d e with
   |some a=>bif Nat.beq a.length (P.cellsOf e)&&Nat.blt 0 a.length then some (AT n a) else none
   |none=>none
  |_=>none
def vJp (P:Program)(t:TypeId):Option (List (Option IntKind)):=match P.underlying t with
 |some (.struct _)=>DD P 8 t
 |_=>none
def gO:List (Option IntKind)→List qC→Bool
 |[],[]=>true
 |some k::l,.int j _::cs=>gq j k&&gO l cs
 |none::l,.bool _::cs=>gO l cs
 |_,_=>false
def Oo (P:Program)(t:TypeId)(a b:List qC):Option Bool:=match vJp P t with
 |some ks=>bif gO ks a&&gO ks b then gu a b else none
 |none=>none
def Ua (d:TypeDesc)(y:Operand)(x:qC):Option Bool:=match d,y,x with
 |.slice _,.const (.slice none 0 0),.nsl=>some true
 |.slice _,.const (.slice none 0 0),.nfl _ _ _=>some false
 |.pointer _,.const (.pointer none),.nilp=>some true
 |.pointer _,.const (.pointer none),.ptr _ _|.pointer _,.const (.pointer none),.eptr _ _ _|.pointer _,.const (.pointer none),.fptr _ _ _ _=>some false
 |.func _ _ _,.const .nilFunc,.nilf=>some true
 |.func _ _ _,.const .nilFunc,.fn _ _=>some false
 |.map _ _,.const (.map none),.nilm=>some true
 |.map _ _,.const (.map none),.map _=>some false
 |_,_,_=>none
def rS:BinOp→Bool→Bool
 |.eql,b=>b
 |_,b=> !b
def Ub:BinOp→Bool
 |.eql|.neq=>true
 |_=>false
def Uc:Operand→Bool
 |.const (.slice none 0 0)|.const (.pointer none)|.const .nilFunc|.const (.map none)=>true
 |_=>false
def nH (xs:List Int):List UInt8:=xs.map fun n=>UInt8.ofNat n.toNat
def oO (xs ys:List Int):Bool:=nH xs==nH ys
def Oq (P:Program)(t:TypeId):Bool:=match P.underlying t with
 |some .bool=>true
 |_=>false
def Ud (P:Program)(eqT:TypeId→Bool)(op:BinOp)(ir:TypeId)(ox oy:Operand)(x y:zY):yW:=match op,x,y with
 |.shl,.c (.int k a),.c (.int _ b)|.shr,.c (.int k a),.c (.int _ b)=>vA0 op k a b
 |_,.c (.int k a),.c (.int j b)=>bif gq k j then yTh op k a b else .stuck
 |.eql,.c (.bool a),.c (.bool b)=>bif Oq P ir then .one (.c (.bool (eL a b))) else .stuck
 |.neq,.c (.bool a),.c (.bool b)=>bif Oq P ir then .one (.c (.bool (!eL a b))) else .stuck
 |.eql,.c (.str a),.c (.str b)=>.one (.c (.bool (oO a b)))
 |.neq,.c (.str a),.c (.str b)=>.one (.c (.bool (!oO a b)))
 |.eql,.agg a,.agg b=>bif eqT ir then(match Oo P ir a b with|some r=>.one (.c (.bool r))|none=>.stuck) else .stuck
 |.neq,.agg a,.agg b=>bif eqT ir then(match Oo P ir a b with|some r=>.one (.c (.bool (!r)))|none=>.stuck) else .stuck
 |_,_,_=>.stuck
def Ue (op:UnOp)(x:zY):yW:=match op,x with
 |.not,.c (.bool b)=>.one (.c (.bool (!b)))
 |.neg,.c (.int k n)=>.one (.c (.int k (k.wrap (0-n))))
 |_,_=>.stuck
def kC (h:Hp):qC→Option ((t:Ty)×List t.den)
 |.fsl _ t xs=>some ⟨t,xs⟩
 |.osl id r=>match h id with
  |some (.arr _ t xs)=>some ⟨t,j6 xs r⟩
  |some (.mat _ xs)=>match r with
   |none=>some ⟨.sl (.int .i64),xs⟩
   |some _=>none
  |_=>none
 |.mrow id i ver=>match h id with
  |some (.mat v xs)=>bif Nat.beq v ver then some ⟨.int .i64,xs.getD i []⟩ else none
  |_=>none
 |_=>none
def DE (h:Hp):qC→Option (List Int)
 |.nsl=>some []
 |c=>match kC h c with
  |some ⟨.int .u8,xs⟩=>some xs
  |_=>none
def DF (h:Hp)(v:qC):Option Nat:=match v with
 |.nsl=>some 0
 |.bsl _ _ n=>some n
 |v=>match kC h v with
  |some ⟨_,xs⟩=>some xs.length
  |none=>none
def DG (h:Hp):qC→Option Nat
 |.fsl _ _ xs=>some xs.length
 |.osl id none=>match h id with
  |some (.arr _ _ xs)=>some xs.length
  |_=>none
 |_=>none
def oP (h:Hp):qC→Option (qC×vG)
 |.osl id r=>match h id with
  |some (.arr _ t xs)=>some (.fsl true t (j6 xs r),[(id,.arr false t xs)])
  |some (.mat _ xs)=>match r with
   |none=>some (.fsl true (.sl (.int .i64)) xs,[(id,.arr false (.sl (.int .i64)) xs)])
   |some _=>none
  |_=>none
 |.mrow _ _ _=>none
 |v=>some (v,[])
def nI (h:Hp):List qC→Option (List qC×vG)
 |[]=>some ([],[])
 |v::vs=>match oP h v,nI h vs with
  |some (v,u),some (vs,us)=>some (v::vs,u++us)
  |_,_=>none
def zB (i:Int)(n:Nat):Bool:=decide (0≤i)&&decide (i<(n:Int))
def DH (i:Int)(mk:Nat→qC):Nat→Nat→List (Bool×zY×vG)
 |_,0=>[]
 |j,n+1=>(decide (i=(j:Int)),.c (mk j),[])::DH i mk (j+1) n
def Jw (P:Program)(t:TypeId)(cells:List qC)(off:Nat):yW:=.ofO ((mO cells off (P.cellsOf t)).bind (rR (eK P t)))
def DI (P:Program)(h:Hp)(t:TypeId)(a:zY):yW:=
 match a with
 |.c (.ptr id off)=>match h id with
  |some (.box _ cells)=>Jw P t cells off
  |some (.robox cells)=>Jw P t cells off
  |_=>.stuck
 |.c (.fptr sh ty x off)=>Jw P t (cellsOf sh ty x) off
 |.c (.eptr id i off)=>match h id with
  |some (.arr _ ty xs)=>Jw P t (cellsOf true ty (xs.getD i ty.dflt)) off
  |_=>.stuck
 |.c (.mptr id i)=>match h id with
  |some (.mat ver _)=>match eK P t with|some false=>.one (.c (.mrow id i ver))|_=>.stuck
  |_=>.stuck
 |.c (.meptr id i j ver)=>match h id with
  |some (.mat v xs)=>bif Nat.beq v ver then(match eK P t with|some false=>.one (.c (.int .i64 ((xs.getD i []).getD j 0)))|_=>.stuck) else .stuck
  |_=>.stuck
 |_=>.stuck
def DJ (P:Program)(h:Hp)(t:TypeId)(a v:zY):yW:=
 match oN v with
 |none=>.stuck
 | some vs => bif Nat.beq vs.length (P.cellsOf t) && Nat.blt 0 vs.length then (match a with
  |.c (.ptr id off)=>match h id with
   |some (.box true cells)=>match AR cells off vs with
    |some cells=>.alts [(true,.undef,[(id,.box true cells)])]
    |none=>.stuck
   |_=>.stuck
  |.c (.eptr id i off)=>match h id,nI h vs with
   |some (.arr true ty xs),some (vs,u)=>match tK ty (xs.getD i ty.dflt) off vs with
    |some x=>bif u.any (fun p=>Nat.beq p.1 id) then .stuck else .alts [(true,.undef,u++[(id,.arr true ty (xs.set i x))])]
    |none=>.stuck
   |_,_=>.stuck
  |.c (.mptr id i)=>match h id,v with
   |some (.mat ver xs),.c (.osl jd none)=>match h jd with
    |some (.arr true (.int .i64) ys)=>.alts [(true,.undef,[(jd,.gone),(id,.mat (ver+1) (xs.set i ys))])]
    |_=>.stuck
   |some (.pmat ver xs n),.c (.osl jd none)=>match h jd with
    |some (.arr true (.int .i64) ys)=>.alts [(Nat.beq i xs.length,.undef,[(jd,.gone),(id,.pmat (ver+1) (xs++[ys]) n)])]
    |_=>.stuck
   |_,_=>.stuck
  |.c (.meptr id i j ver)=>match h id,v with
   |some (.mat v xs),.c (.int .i64 n)=>bif Nat.beq v ver then .alts [(true,.undef,[(id,.mat v (xs.set i ((xs.getD i []).set j n)))])] else .stuck
   |_,_=>.stuck
  |_=>.stuck) else .stuck
def Uf (P:Program)(s:TypeId)(a:zY)(f:Nat):yW:=match P.underlying s with
 |some (.struct fs)=>match fs[f]? with
  | some fd => bif Nat.beq (P.cellsOf fd.type) 0 then .stuck else (match a with
   |.c (.ptr id off)=>.one (.c (.ptr id (off+fd.offset)))
   |.c (.eptr id i off)=>.one (.c (.eptr id i (off+fd.offset)))
   |.c (.fptr sh t x off)=>.one (.c (.fptr sh t x (off+fd.offset)))
   |_=>.stuck)
  |none=>.stuck
 |_=>.stuck
def DK (P:Program)(h:Hp)(t:TypeId)(x i:zY):yW:=match P.underlying t,x,i with
 |some (.slice e),.c v,.c (.int _ i)=>match v with
  |.fsl sh ty xs=>bif Nat.beq (P.cellsOf e) ty.size then .when (zB i xs.length) (.c (.fptr sh ty (xs.getD i.toNat ty.dflt) 0)) else .stuck
  |.osl id r=>match h id with
   | some (.arr _ ty xs) => bif Nat.beq (P.cellsOf e) ty.size then (match r with
    |none=>.when (zB i xs.length) (.c (.eptr id i.toNat 0))
    |some (lo,n)=>.when (zB i n) (.c (.eptr id (lo+i.toNat) 0))) else .stuck
   | some (.mat _ xs) => bif Nat.beq (P.cellsOf e) 1 then (match r with
    |none=>.when (zB i xs.length) (.c (.mptr id i.toNat))
    |some _=>.stuck) else .stuck
   | some (.pmat _ _ n) => bif Nat.beq (P.cellsOf e) 1 then (match r with
    |none=>.when (zB i n) (.c (.mptr id i.toNat))
    |some _=>.stuck) else .stuck
   |_=>.stuck
  | .mrow id j ver => bif Nat.beq (P.cellsOf e) 1 then (match h id with
   |some (.mat v xs)=>bif Nat.beq v ver then .when (zB i (xs.getD j []).length) (.c (.meptr id j i.toNat ver)) else .stuck
   |_=>.stuck) else .stuck
  |_=>.stuck
 |some (.array n e),.c (.ptr id off),.c (.int _ i)=>bif Nat.beq (P.cellsOf e) 0 then .stuck else .alts (DH i (fun j=>.ptr id (off+j*P.cellsOf e)) 0 n)
 |some (.array n e),.c (.eptr id q off),.c (.int _ i)=>bif Nat.beq (P.cellsOf e) 0 then .stuck else .alts (DH i (fun j=>.eptr id q (off+j*P.cellsOf e)) 0 n)
 |some (.array n e),.c (.fptr sh t x off),.c (.int _ i)=>bif Nat.beq (P.cellsOf e) 0 then .stuck else .alts (DH i (fun j=>.fptr sh t x (off+j*P.cellsOf e)) 0 n)
 |_,_,_=>.stuck
def Ug (P:Program)(t:TypeId)(x i:zY):yW:=match P.underlying t,x,i with
 |some (.array n e),.agg cs,.c (.int _ i)=>bif Nat.beq (P.cellsOf e) 1&&(match eK P e with|some false=>true|_=>false)&&Nat.beq cs.length n
   then .alts (DH i (fun j=>cs.getD j .undef) 0 n) else .stuck
 |_,_,_=>.stuck
def Jx (s:ByteArray):List Int:=s.data.toList.map fun b=>(b.toNat:Int)
def Uh (P:Program)(t:TypeId)(s:ByteArray)(i:zY):yW:=match P.underlying t,i with
 |some .string,.c (.int _ n)=>.when (zB n (Jx s).length) (.c (.int .u8 ((Jx s).getD n.toNat 0)))
 |_,_=>.stuck
def Ui (P:Program)(s:TypeId)(x:zY)(f:Nat):yW:=match P.underlying s,x with
 |some (.struct fs),.agg cs=>match fs[f]? with
  |some fd=>match mO cs fd.offset (P.cellsOf fd.type) with
   |some vs=>.ofO (rR (eK P fd.type) vs)
   |none=>.stuck
  |none=>.stuck
 |_,_=>.stuck
def Jy (place:Nat→Option (Nat×Nat))(cells:List qC):List (Nat×zY)→Option (List qC)
 |[]=>some cells
 |(i,v)::rest=>match place i,oN v with
  | some (off, size), some vs => bif Nat.beq vs.length size && Nat.ble (off + size) cells.length then (match AR cells off vs with
   |some cells=>Jy place cells rest
   |none=>none) else none
  |_,_=>none
def Uj (P:Program)(t:TypeId)(parts:List (Nat×zY)):yW:=match zeroCells P t with
 |none=>.stuck
 |some zero=>match P.underlying t with
  | some (.struct fs) => bif fs.toList.all (fun f => (P.info? f.type).isSome) then (match Jy (fun i=>(fs[i]?).map fun f=>(f.offset,P.cellsOf f.type)) zero parts with
   |some cells=>.one (.agg cells)
   |none=>.stuck) else .stuck
  | some (.array _ e) => bif (P.info? e).isSome then (match Jy (fun i=>some (i*P.cellsOf e,P.cellsOf e)) zero parts with
   |some cells=>.one (.agg cells)
   |none=>.stuck) else .stuck
  |_=>.stuck
def AU (h:Hp):zY→Option (List Int×vG)
 |.c (.osl jd none)=>match h jd with
  |some (.arr true (.int .i64) ys)=>some (ys,[(jd,.gone)])
  |_=>none
 |.c .nsl=>some ([],[])
 |_=>none
def AV (h:Hp)(rows:List (List Int)):List (Nat×zY)→Option (List (List Int)×vG)
 |[]=>some (rows,[])
 |(i,v)::rest=>match AU h v with
  |some (r,u)=>match AV h (rows.set i r) rest with
   |some (rows,us)=>some (rows,u++us)
   |none=>none
  |none=>none
def rT (h:Hp)(t:Ty)(xs:List t.den):List (Nat×zY)→Option (List t.den×vG)
 |[]=>some (xs,[])
 |(i,v)::rest=>match oN v with
  |some vs=>match nI h vs with
   |some (vs,u)=>match Ju t vs with
    |some x=>match rT h t (xs.set i x) rest with
     |some (xs,us)=>some (xs,u++us)
     |none=>none
    |none=>none
   |none=>none
  |none=>none
def tM:List Nat→Bool
 |[]=>true
 |a::l=> !(l.any (Nat.beq a))&&tM l
def DL (P:Program)(mat:Bool)(nm:Nat)(h:Hp)(t:TypeId)(n:Nat)(parts:List (Nat×zY)):yW:=
 match P.underlying t,h nm with
 |some (.slice e),none=>bif Nat.ble (n*P.cellsOf e) 16777216 then
   (bif mat then (match kB P e,AV h (List.replicate n []) parts with
    |some (.sl (.int .i64)),some (rows,u)=>bif tM (u.map (·.1))&&parts.all (fun p=>Nat.blt p.1 n) then .alts [(true,.c (.osl nm none),u++[(nm,.mat 0 rows)])] else .stuck
    |_,_=>.stuck)
   else (match kB P e with
    |some ty=>match rT h ty (List.replicate n ty.dflt) parts with
     |some (xs,u)=>bif parts.all (fun p=>Nat.blt p.1 n) then .alts [(true,.c (.osl nm none),u++[(nm,.arr true ty xs)])] else .stuck
     |none=>.stuck
    |none=>.stuck)) else .stuck
 |_,_=>.stuck
def DM (P:Program)(mat:Bool)(nm:Nat)(h:Hp)(t:TypeId)(l c:zY):yW:=
 match P.underlying t,h nm,l,c with
 |some (.slice e),none,.c (.int .i64 l),.c (.int .i64 c)=>
   let ok:=decide (0≤l)&&decide (l≤c)&&decide (c*(P.bytesOf e:Int)≤140737488355328)&&decide (c≤140737488355328)
   bif mat then (match kB P e with
    |some (.sl (.int .i64))=>.alts [(ok,.c (.osl nm none),[(nm,.mat 0 (List.replicate l.toNat []))])]
    |_=>.stuck)
   else (match kB P e with
    |some ty=>.alts [(ok,.c (.osl nm none),[(nm,.arr true ty (List.replicate l.toNat ty.dflt))])]
    |none=>.stuck)
 |_,_,_,_=>.stuck
def Jz (P:Program)(t:TypeId):Bool:=match P.underlying t with
 | some (.map k e) => (match P.underlying k,(P.info? e).bind (·.zero) with
  |some (.int .i64),some (.bool false)=>true
  |_,_=>false)
 |_=>false
def DN (P:Program)(nm:Nat)(h:Hp)(t:TypeId):yW:=
 match h nm with
 |none=>bif Jz P t then .alts [(true,.c (.map nm),[(nm,.imap [])])] else .stuck
 |some _=>.stuck
def DO (P:Program)(h:Hp)(t:TypeId)(x i:zY):yW:=
 match x,i with
 | .c (.map id), .c (.int .i64 n) => (match h id with
  |some (.imap df)=>bif Jz P t then .one (.c (.bool ((df.lookup n).getD false))) else .stuck
  |_=>.stuck)
 |_,_=>.stuck
def DP (P:Program)(h:Hp)(t:TypeId)(x i v:zY):yW:=
 match x,i,v with
 | .c (.map id), .c (.int .i64 n), .c (.bool b) => (match h id with
  |some (.imap df)=>bif Jz P t then .alts [(true,.undef,[(id,.imap ((n,b)::df))])] else .stuck
  |_=>.stuck)
 |_,_,_=>.stuck
def wv (len:Nat)(lo hi:Option zY):Option (Bool×Nat×Nat):=
 match lo,hi with
 |none,none=>some (true,0,len)
 |some (.c (.int _ l)),none=>some (decide (0≤l)&&decide (l≤(len:Int)),l.toNat,len)
 |none,some (.c (.int _ u))=>some (decide (0≤u)&&decide (u≤(len:Int)),0,u.toNat)
 |some (.c (.int _ l)),some (.c (.int _ u))=>some (decide (0≤l)&&decide (l≤u)&&decide (u≤(len:Int)),l.toNat,u.toNat)
 |_,_=>none
def AW:List qC→Option (List Int)
 |[]=>some []
 |.int .i64 n::l=>match AW l with|some r=>some (n::r)|none=>none
 |_=>none
def Uk (len:Nat):Option (Nat×Nat)→Option zY→Nat
 |none,_=>len
 |some p,none=>p.2
 |some p,some _=>len-p.1
def DQ (P:Program)(h:Hp)(t:TypeId)(x:zY)(lo hi mx:Option zY):yW:=
 match P.underlying t,mx,x with
 | some (.slice e), none, .c (.fsl sh ty xs) => bif Nat.beq (P.cellsOf e) ty.size then (match wv xs.length lo hi with
  | some (ok, l, u) => .when ok (.c (.fsl sh ty (match lo,hi with
   |none,none=>xs
   |some _,none=>xs.drop l
   |none,some _=>xs.take u
   |some _,some _=>qO xs l (u-l))))
  |none=>.stuck) else .stuck
 |some (.slice e),none,.c (.osl id r)=>match h id with
  | some (.arr _ ty xs) => bif Nat.beq (P.cellsOf e) ty.size then (match wv (Uk xs.length r hi) lo hi with
   |some (ok,l,u)=>.when ok (.c (.osl id (some ((match r with|none=>0|some p=>p.1)+l,u-l))))
   |none=>.stuck) else .stuck
  |_=>.stuck
 |some (.slice e),some (.c (.int _ m)),.c (.osl id none)=>match h id with
  | some (.arr _ ty xs) => bif Nat.beq (P.cellsOf e) ty.size then (match lo,hi,wv xs.length lo hi with
   |some _,some _,some (ok,_,u)=>.when (ok&&decide ((u:Int)≤m)&&decide (m≤(xs.length:Int))) (.c .undef)
   |_,_,_=>.stuck) else .stuck
  |_=>.stuck
 | some (.array n e), none, .c (.ptr id off) => bif Nat.beq (P.cellsOf e) 1 then (match h id with
  |some (.box own cells)=>match lo,hi with
   |none,none=>bif Nat.ble (off+n) cells.length then .one (.c (.bsl id off n)) else .stuck
   |_,_=>match mO cells off n with
    |some vs=>match AW vs,wv n lo hi with
     |some ns,some (ok,l,u)=>.alts [(ok,.c (.fsl true (.int .i64) (qO ns l (u-l))),bif own then[(id,.box false cells)] else[])]
     |_,_=>.stuck
    |none=>.stuck
  |_=>.stuck) else .stuck
 |_,_,_=>.stuck
def tN (h:Hp)(t:Ty):qC→Option (List t.den×vG)
 |.nsl=>some ([],[])
 |.fsl sh s xs=>bif sh||s.flat then(im s t xs).map (·,[]) else none
 |.nfl sh s xs=>bif sh||s.flat then(im s t xs).map (·,[]) else none
 |.osl id r=>match h id with
  |some (.arr _ s xs)=>(im s t (j6 xs r)).map (·,[])
  |_=>none
 |_=>none
def DR (P:Program)(mat:Bool)(nm:Nat)(h:Hp)(t:TypeId)(b x:zY):yW:=
 match P.underlying t,h nm,b,x with
 |some (.slice e),none,.c b,.c x=>match kB P e with
  |none=>.stuck
  |some ty=>
   let room (n:Nat):Bool:=Nat.ble (n*P.bytesOf e) 140737488355328&&Nat.ble n 140737488355328
   bif mat then (match ty,b,x with
    |.sl (.int .i64),.osl id none,.osl jd none=>match h id,h jd with
     |some (.mat _ xs),some (.mat _ ys)=>bif Nat.beq id jd then .stuck else
       .alts [(room (xs.length+ys.length),.c (.osl nm none),[(id,.gone),(jd,.gone),(nm,.mat 0 (xs++ys))])]
     |_,_=>.stuck
    |_,_,_=>.stuck)
   else (match b with
    |.nsl=>match tN h ty x with
     |some (ys,u)=>.alts [(room ys.length,.c (.osl nm none),u++[(nm,.arr true ty ys)])]
     |none=>.stuck
    |.osl id r=>match h id with
     |some (.arr true s iu)=>match im s ty (j6 iu r),tN h ty x with
      | some xs, some (ys, u) => (match r with
       | some (0, _) | none => (bif (match x with | .osl jd _ => Nat.beq id jd | _ => false) then (match r,x,im s ty iu with
         |some (0,i),.osl _ (some (j,m)),some zs=>.alts [(Nat.ble i j,.c (.osl nm (some (0,i+m))),[(id,.gone),(nm,.arr true ty (zs.take i++qO zs j m++zs.drop (i+m)))])]
         |_,_,_=>.stuck) else
         .alts [(room (xs.length+ys.length),.c (.osl nm none),u++[(id,.gone),(nm,.arr true ty (xs++ys))])])
       |_=>.stuck)
      |_,_=>.stuck
     |_=>.stuck
    |_=>.stuck)
 |_,_,_,_=>.stuck
def AY (xs:List Int):Nat→List qC→List qC
 |_,[]=>[]
 |i,.int .i64 n::cs=>.int .i64 (bif Nat.blt i xs.length then xs.getD i 0 else n)::AY xs (i+1) cs
 |i,c::cs=>c::AY xs (i+1) cs
def DS (h:Hp)(d s:zY):yW:=match d,s with
 |.c (.bsl id off n),.c s=>match h id,(match s with|.nsl=>some ⟨.int .i64,[]⟩|s=>kC h s:Option ((t:Ty)×List t.den)) with
  |some (.box true cells),some ⟨.int .i64,ys⟩=>match mO cells off n with
   |some vs=>match AW vs with
    |some _=>.alts [(true,.c (.int .i64 ((min ys.length n:Nat):Int)),[(id,.box true (cells.take off++AY ys 0 vs++cells.drop (off+n)))])]
    |none=>.stuck
   |none=>.stuck
  |_,_=>.stuck
 |_,_=>.stuck
def Ot (P:Program)(h:Hp)(t:TypeId)(id lo n:Nat):yW:=match P.underlying t,h id with
 |some (.slice e),some (.arr true s xs)=>match kB P e with
  |some ty=>bif rQ ty s then .alts [(true,.undef,[(id,.arr true s (xs.take lo++List.replicate n s.dflt++xs.drop (lo+n)))])] else .stuck
  |none=>.stuck
 |_,_=>.stuck
def Ou (lt:Bool):List zY→yW
 |[.c (.int k x),.c (.int _ y)]=>.one (.c (.int k (bif lt then(bif decide (y<x) then y else x) else(bif decide (y>x) then y else x))))
 |[.c (.int k x),.c (.int _ y),.c (.int _ z)]=>
  let m (a b:Int):Int:=bif lt then(bif decide (b<a) then b else a) else(bif decide (b>a) then b else a)
  .one (.c (.int k (m (m x y) z)))
 |_=>.stuck
abbrev Ov:=Nat→Nat→Nat→List zY→Hp→yW
inductive CS where
 |int (k:IntKind)|bool|dat (sh:Bool) (t:Ty)|lit (v:qC)
inductive VS where
 |c (x:CS)|agg (l:List CS)
inductive OS where
 |box (own:Bool) (l:List CS)|robox (l:List CS)|arr (own:Bool) (t:Ty)|mat|pmat|imap
abbrev SL:List CS→Type
 |[]=>Unit
 |.int _::l=>Int×SL l
 |.bool::l=>Bool×SL l
 |.dat _ t::l=>List t.den×SL l
 |.lit _::l=>SL l
def VS.cells:VS→List CS
 |.c x=>[x]
 |.agg l=>l
abbrev SV:List (Nat×VS)→Type
 |[]=>Unit
 |s::l=>SL s.2.cells×SV l
abbrev OS.den:OS→Type
 |.box _ l=>SL l
 |.robox l=>SL l
 |.arr _ t=>List t.den
 |.mat=>List (List Int)
 |.pmat=>List (List Int)×Nat
 |.imap=>List (Int×Bool)
abbrev OL:List OS→Type
 |[]=>Unit
 |o::l=>o.den×OL l
structure zE where
 slots:List (Nat×VS)
 objs:List OS
 grow:List (Nat×Option Nat×Ty×Bool)
abbrev zE.den (S:zE):Type:=SV S.slots×OL S.objs
def Ow:List Nat→List Nat→Bool
 |[],[]=>true
 |a::l,b::m=>Nat.beq a b&&Ow l m
 |_,_=>false
def Ul:qC→qC→Bool
 |.undef,_=>true
 |.nsl,.nsl|.nilp,.nilp|.nilf,.nilf|.nilm,.nilm=>true
 |.osl a none,.osl b none=>Nat.beq a b
 |.bsl a i n,.bsl b j m=>Nat.beq a b&&Nat.beq i j&&Nat.beq n m
 |.ptr a i,.ptr b j=>Nat.beq a b&&Nat.beq i j
 |.fn f c,.fn g d=>Nat.beq f g&&Ow c d
 |.map a,.map b=>Nat.beq a b
 |_,_=>false
def mP:(l:List CS)→List qC→Option (SL l)
 |[],[]=>some ()
 |.int k::l,.int j n::vs=>bif gq j k then(match mP l vs with|some d=>some (n,d)|none=>none) else none
 |.bool::l,.bool b::vs=>match mP l vs with|some d=>some (b,d)|none=>none
 | .dat sh t :: l, .fsl JA s xs :: vs => bif JA || !sh then (match im s t xs,mP l vs with
  |some xs,some d=>some (xs,d)
  |_,_=>none) else none
 |.dat _ _::l,.nsl::vs=>match mP l vs with|some d=>some ([],d)|none=>none
 |.lit c::l,v::vs=>bif Ul c v then mP l vs else none
 |_,_=>none
def Um (v:VS)(a:zY):Option (SL v.cells):=match v,a with
 |.c x,.c y=>mP [x] [y]
 |.agg l,.agg vs=>mP l vs
 |_,_=>none
def Ox (o:OS)(x:Obj):Option o.den:=match o,x with
 |.box own l,.box nJ cells=>bif own==nJ then mP l cells else none
 |.robox l,.robox cells=>mP l cells
 |.arr own t,.arr nJ s xs=>bif own==nJ then im s t xs else none
 |.mat,.mat _ xs=>some xs
 |.pmat,.pmat _ xs n=>some (xs,n)
 |.imap,.imap df=>some df
 |_,_=>none
def pM:(l:List CS)→SL l→List qC
 |[],_=>[]
 |.int k::l,d=>.int k d.1::pM l d.2
 |.bool::l,d=>.bool d.1::pM l d.2
 |.dat sh t::l,d=>.fsl sh t d.1::pM l d.2
 |.lit c::l,d=>c::pM l d
def Un (v:VS)(d:SL v.cells):zY:=match v,d with
 |.c x,d=>match pM [x] d with|c::_=>.c c|[]=>.undef
 |.agg l,d=>.agg (pM l d)
def Oy (o:OS)(d:o.den):Obj:=match o,d with
 |.box own l,d=>.box own (pM l d)
 |.robox l,d=>.robox (pM l d)
 |.arr own t,xs=>.arr own t xs
 |.mat,xs=>.mat 0 xs
 |.pmat,d=>.pmat 0 d.1 d.2
 |.imap,df=>.imap df
def DT:(l:List (Nat×VS))→SV l→List (Nat×zY)
 |[],_=>[]
 |s::l,d=>(s.1,Un s.2 d.1)::DT l d.2
def tO:(l:List OS)→OL l→List Obj
 |[],_=>[]
 |o::l,d=>Oy o d.1::tO l d.2
def zM (base:Nat)(S:zE)(d:S.den):St:=
  { t:=fun n=>match(DT S.slots d.1).lookup n with|some v=>v|none=>.undef,
    h:=fun n=>bif Nat.ble base n then(tO S.objs d.2)[n-base]? else none}
inductive Ex where
 |normal|ret|exit (id:Nat)
def Uo:Ex→Ex→Bool
 |.normal,.normal|.ret,.ret=>true
 |.exit a,.exit b=>Nat.beq a b
 |_,_=>false
abbrev wx:List (Ex×zE)→Type
 |[]=>Empty
 |[p]=>p.2.den
 |p::q::l=>p.2.den⊕wx (q::l)
abbrev rU:List zE→Type
 |[]=>Empty
 |[S]=>S.den
 |S::T::l=>S.den⊕rU (T::l)
structure zV where
 ins:List zE
 outs:List (Ex×zE)
 X:Type
 sum:Nat→rU ins→Option X
 elim:Nat→X→(R:Type)→(Ex→St→Option R)→Option R
structure zW where
 mats:List Nat
 loops:List (Nat×zV)
 unr:List (Nat×Nat)
 wise:Bool
structure Env where
 P:Program
 eqT:TypeId→Bool
 sums:Ov
def rV (pre:Nat):Option Nat→Nat
 |some d=>pre+100*(d+1)
 |none=>pre
def wy:zY→Option Nat
 |.c (.ptr id 0)=>some id
 |_=>none
def Uq (P:Program)(mat:Bool)(nm:Nat)(h:Hp)(b:Builtin)(ts:Array TypeId)(l:List zY):yW:=match b with
 |.len=>match l with
  |[.c v]=>match(ts[0]?).bind P.underlying with
   |some (.slice _)=>match DF h v with
    |some n=>.one (.c (.int .i64 (n:Int)))
    |none=>.stuck
   |_=>.stuck
  |_=>.stuck
 |.append=>match l with
  |[b,x]=>match ts.toList with
   |[t,u]=>bif Nat.beq t u then DR P mat nm h t b x else .stuck
   |_=>.stuck
  |_=>.stuck
 |.copy=>match l with
  |[d,s]=>match(ts[0]?).bind P.underlying with
   |some (.slice e)=>bif Nat.beq (P.cellsOf e) 1 then DS h d s else .stuck
   |_=>.stuck
  |_=>.stuck
 |.clear=>match l with
  |[.c (.osl id (some (lo,n)))]=>match ts[0]? with
   |some t=>Ot P h t id lo n
   |none=>.stuck
  |_=>.stuck
 |.max=>Ou false l
 |.min=>Ou true l
 |_=>.stuck
def lv (E:Env)(A:zW)(k pre:Nat)(o:Oper)(ev:Operand→zY)(h:Hp):yW:=
 let nm:=rV pre o.dst;let mat:=match o.dst with|some d=>A.mats.any (Nat.beq d)|none=>false
 match o.op with
 |.move x|.assign x=>.one (ev x)
 |.pick c a b=>match ev c with
  |.c (.bool c)=>match ev a,ev b with
   |.c (.bool a),.c (.bool b)=>.one (.c (.bool (bif c then a else b)))
   |va,vb=>.alts [(c,va,[]),(true,vb,[])]
  |_=>.stuck
 |.alloc t=>match h nm,zeroCells E.P t with
  |none,some zs=>.alts [(true,.c (.ptr nm 0),[(nm,.box true zs)])]
  |_,_=>.stuck
 |.box t x=>match h nm,oN (ev x) with
  |none,some vs=>.alts [(true,.c (.ptr nm 0),[(nm,.box (!mat) vs)])]
  |_,_=>.stuck
 |.build t parts=>Uj E.P t (parts.toList.map fun p=>(p.1,ev p.2))
 |.buildSlice t n parts=>DL E.P mat nm h t n (parts.toList.map fun p=>(p.1,ev p.2))
 |.load t a=>DI E.P h t (ev a)
 |.store t a v=>DJ E.P h t (ev a) (ev v)
 |.nilCheck x=>match ev x with
  |.c (.ptr a b)=>.one (.c (.ptr a b))
  |.c (.eptr a b c)=>.one (.c (.eptr a b c))
  |.c (.fptr s t x off)=>.one (.c (.fptr s t x off))
  |.c (.fn f c)=>.one (.c (.fn f c))
  |_=>.stuck
 |.binOp op t x y _=>
  bif Uc y && Ub op then (match E.P.underlying t,ev x with
   |some d,.c v=>match Ua d y v with
    |some b=>.one (.c (.bool (rS op b)))
    |none=>match d,y,DG h v with
     |.slice _,.const (.slice none 0 0),some n=>.when (Nat.blt 0 n) (.c (.bool (rS op false)))
     |_,_,_=>.stuck
   |_,_=>.stuck)
  else Ud E.P E.eqT op t x y (ev x) (ev y)
 |.unOp op _ x=>Ue op (ev x)
 |.convert s d x=>match E.P.underlying s,E.P.underlying d,ev x with
  |some (.int _),some (.int k),.c (.int _ n)=>.one (.c (.int k (k.wrap n)))
  |some (.slice e),some .string,.c c=>match E.P.underlying e,DE h c with
   |some (.int .u8),some xs=>.one (.c (.str xs))
   |_,_=>.stuck
  |_,_,_=>.stuck
 | .makeFunc (.func f) first captured => bif Nat.beq first.size 0 then (match captured.toList.mapM (fun x=>wy (ev x)) with
   |some ids=>.one (.c (.fn f ids))
   |none=>.stuck) else .stuck
 |.makeSlice t l c=>DM E.P mat nm h t (ev l) (ev c)
 |.makeMap t none=>DN E.P nm h t
 |.lookup t x i false=>DO E.P h t (ev x) (ev i)
 |.mapUpdate t x i y=>DP E.P h t (ev x) (ev i) (ev y)
 |.slice t x lo hi mx=>DQ E.P h t (ev x) (lo.map ev) (hi.map ev) (mx.map ev)
 |.fieldAddr t x f=>Uf E.P t (ev x) f
 |.field t x f=>Ui E.P t (ev x) f
 |.indexAddr t x i=>DK E.P h t (ev x) (ev i)
 |.index t x i=>match x with
  |.const (.string s)=>Uh E.P t s (ev i)
  |_=>Ug E.P t (ev x) (ev i)
 |.extract t i=>match ev t with
  |.tup xs=>match xs[i]? with
   |some (g,vs)=>.ofO (rR (some g) vs)
   |none=>.stuck
  |_=>.stuck
 |.call c=>match c.callee with
  |.builtin b=>Uq E.P mat nm h b c.argTypes (c.args.toList.map ev)
  |.value f=>match ev f with
   |.c (.fn f cap)=>E.sums k nm f (c.args.toList.map ev++cap.map fun id=>.c (.ptr id 0)) h
   |_=>.stuck
  |_=>.stuck
 |_=>.stuck
structure DU where
 i:Nat
 nm:Nat
 upd:List Nat
 refs:Option (List Nat)
def vL:qC→List Nat
 |.osl id _|.bsl id _ _|.ptr id _|.eptr id _ _|.mrow id _ _|.mptr id _|.meptr id _ _ _|.map id=>[id]
 |.fn _ cap=>cap
 |_=>[]
def yU:zY→List Nat
 |.c v=>vL v
 |.agg vs=>vs.flatMap vL
 |.tup xs=>xs.flatMap fun x=>x.2.flatMap vL
 |_=>[]
def wS:zY→Bool
 |.c (.ptr _ _)|.c (.map _)|.c (.eptr _ _ _)|.c (.mptr _ _)|.c (.meptr _ _ _ _)|.c (.bsl _ _ _)=>true
 |.c (.fn _ cap)=> !cap.isEmpty
 |_=>false
def Ur:Op→Bool
 |.call {callee:=.value _,..}=>true
 |_=>false
def yIh:Op→Bool
 |.move _|.assign _|.nilCheck _|.fieldAddr _ _ _|.field _ _ _|.extract _ _=>true
 |_=>false
def rW (ev:Operand→zY)(o:Oper):Option (List Nat):=bif yIh o.op then some [] else
 let vals:=o.op.operands.toList.map ev
 bif Ur o.op&&vals.any wS then none else some (vals.flatMap yU)
def Oz (a:List Nat):Option (List Nat)→Bool
 |none=> !a.isEmpty
 |some b=>a.any fun x=>b.any (Nat.beq x)
def nK (nm a:Nat):Bool:=Nat.ble nm a&&Nat.blt a (nm+100)
def tP (x y:DU):Bool:=Oz x.upd y.refs||Oz y.upd x.refs||x.upd.any (nK y.nm)||y.upd.any (nK x.nm)||x.upd.any fun a=>y.upd.any (Nat.beq a)
def nL (b:Array Nat)(i j:Nat):Bool:=(b.getD j 0).testBit i
def tQ (ops:Array Oper)(i j:Nat):Bool:=match ops[i]?,ops[j]? with
 |some x,some y=>x.apart ops y
 |_,_=>false
def JB (ops:Array Oper):Bool:=ops.toList.zipIdx.all fun p=>p.1.after.toList.all fun e=> !Region.binds .any e||Nat.blt e.on p.2
def wz (na nt:Nat):Option Nat→Bool
 |some d=>Nat.ble na d&&Nat.blt d nt
 |none=>true
def eY (u:vG):List Nat:=u.map (·.1)
section
variable (E:Env) (A:zW) (k pre na nt:Nat) {R:Type}
def OA (o:Oper)(st:St)(K:zY→vG→St→Option R):Option R:=
 bif wz na nt o.dst then
  (lv E A k pre o st.ev st.h).elim fun v u=>K v u {t:=j5 st.t o.dst v,h:=qJ st.h u}
 else none
def OB (ops:Array Oper)(j:Nat):Option Nat:=(ops[j]?).bind (·.dst)
def OC (ops:Array Oper)(o:Oper)(st:St)(yes no:St→Option R):Option R:=match o.guard with
 |none=>yes st
 |some (j,want)=>match OB ops j with
  |none=>none
  |some s=>match st.t s with
   |.c (.bool b)=>bif b then(let st:={st with t:=jX st.t s (.c (.bool true))};bif want then yes st else no st)
     else(let st:={st with t:=jX st.t s (.c (.bool false))};bif want then no st else yes st)
   |.skp=>no st
   |_=>none
def OD (ops:Array Oper):List (Nat×Oper)→St→(St→Option R)→Option R
 |[],st,K=>K st
 |(_,o)::rest,st,K=>OC ops o st
   (fun st=>OA E A k pre na nt o st fun _ _ st=>OD ops rest st K)
   (fun st=>bif wz na nt o.dst then OD ops rest {st with t:=j5 st.t o.dst .skp} K else none)
def DV (ops:Array Oper)(b:Array Nat):List (Nat×Oper)→List DU→St→(St→Option R)→Option R
 |[],_,st,K=>K st
 |(i,o)::rest,done,st,K=>
  bif done.all fun d=>nL b d.i i||tQ ops d.i i then OC ops o st
   (fun st=>let r:=rW st.ev o;OA E A k pre na nt o st fun _ u st=>
    let x:DU:=⟨i,rV pre o.dst,eY u,r⟩
    bif done.all fun d=>nL b d.i i|| !tP d x then DV ops b rest (x::done) st K else none)
   (fun st=>bif wz na nt o.dst then DV ops b rest (⟨i,rV pre o.dst,[],some []⟩::done) {st with t:=j5 st.t o.dst .skp} K else none)
  else none
def Us:Option Obj→List Nat
 |some (.box _ cells)=>cells.flatMap vL
 |some (.robox cells)=>cells.flatMap vL
 |_=>[]
def DW (h:Hp):Nat→List Nat→List Nat→List Nat
 |0,_,seen=>seen
 |_,[],seen=>seen
 |n+1,id::todo,seen=>bif seen.any (Nat.beq id) then DW h n todo seen else DW h n (Us (h id)++todo) (seen++[id])
def fy (id:Nat):List Nat→Nat→Option Nat
 |[],_=>none
 |a::l,i=>bif Nat.beq a id then some i else fy id l (i+1)
def w8 (h:Hp)(ρ:Nat→Option Nat):qC→qC
 |.osl id r=>match ρ id with|some i=>.osl i r|none=>.undef
 |.bsl id a b=>match ρ id with|some i=>.bsl i a b|none=>.undef
 |.ptr id a=>match ρ id with|some i=>.ptr i a|none=>.undef
 |.eptr id a b=>match ρ id with|some i=>.eptr i a b|none=>.undef
 |.mrow id a ver=>match ρ id,h id with
  |some i,some (.mat v _)=>bif Nat.beq v ver then .mrow i a 0 else .undef
  |_,_=>.undef
 |.mptr id a=>match ρ id with|some i=>.mptr i a|none=>.undef
 |.meptr id a b ver=>match ρ id,h id with
  |some i,some (.mat v _)=>bif Nat.beq v ver then .meptr i a b 0 else .undef
  |_,_=>.undef
 |.map id=>match ρ id with|some i=>.map i|none=>.undef
 |.fn f cap=>match cap.mapM ρ with|some c=>.fn f c|none=>.undef
 |v=>v
def yLu (h:Hp)(ρ:Nat→Option Nat):zY→zY
 |.c v=>.c (w8 h ρ v)
 |.agg vs=>.agg (vs.map (w8 h ρ))
 |.tup xs=>.tup (xs.map fun x=>(x.1,x.2.map (w8 h ρ)))
 |v=>v
def w9 (h:Hp)(ρ:Nat→Option Nat):Obj→Obj
 |.box own cells=>.box own (cells.map (w8 h ρ))
 |.robox cells=>.robox (cells.map (w8 h ρ))
 |.mat _ xs=>.mat 0 xs
 |.pmat _ xs n=>.pmat 0 xs n
 |o=>o
def iw:Nat:=1000000
def Ut (st:St)(s:Nat):Option Nat→St
 |none=>match st.t s with
  |.c c=>match oP st.h c with
   |some (c',u)=>{t:=jX st.t s (.c c'),h:=qJ st.h u}
   |none=>st
  |_=>st
 |some j=>match st.t s with
  |.c (.ptr id 0)=>match st.h id with
   |some (.box true cells)=>match cells[j]? with
    |some c=>match oP st.h c with
     |some (c',u)=>{st with h:=yM (qJ st.h u) id (.box true (cells.set j c'))}
     |none=>st
    |none=>st
   |_=>st
  |.agg cells=>match cells[j]? with
   |some c=>match oP st.h c with
    |some (c',u)=>{t:=jX st.t s (.agg (cells.set j c')),h:=qJ st.h u}
    |none=>st
   |none=>st
  |_=>st
def yQk:Ty→Bool
 |.bool=>true
 |_=>false
def Uu (st:St)(nm:Nat)(g:Nat×Option Nat×Ty×Bool):St:=bif g.2.2.2&&yQk g.2.2.1 then Ut st g.1 g.2.1 else match g.2.1 with
 |none=>match st.t g.1 with
  |.c .nsl=>{t:=jX st.t g.1 (.c (.osl nm none)),h:=yM st.h nm (bif g.2.2.2 then .mat 0 [] else .arr true g.2.2.1 [])}
  |_=>st
 |some j=>match st.t g.1 with
  |.c (.ptr id 0)=>match st.h id with
   |some (.box true cells)=>match cells[j]? with
    |some .nsl=>{st with h:=yM (yM st.h nm (bif g.2.2.2 then .mat 0 [] else .arr true g.2.2.1 [])) id (.box true (cells.set j (.osl nm none)))}
    |_=>st
   |_=>st
  |_=>st
def OE (st:St):Nat→List (Nat×Option Nat×Ty×Bool)→Option St
 |_,[]=>some st
 |nm,g::l=>match st.h nm with
  |none=>OE (Uu st nm g) (nm+1) l
  |some _=>none
def AZ (base : Nat) (h : Hp) (ids : List Nat) : Hp := fun n => bif Nat.ble base n then (match ids[n-base]? with
 |some id=>(h id).map (w9 h fun i=>(fy i ids 0).map (base+·))
 |none=>none) else none
def OF (f:zY→zY)(t:Nat→zY):(l:List (Nat×VS))→Option (SV l)
 |[]=>some ()
 |s::l=>match Um s.2 (f (t s.1)),OF f t l with
  |some d,some ds=>some (d,ds)
  |_,_=>none
def OG (f:Obj→Obj)(h:Hp):(l:List OS)→List Nat→Option (OL l)
 |[],[]=>some ()
 |o::l,id::ids=>match(h id).bind fun x=>Ox o (f x),OG f h l ids with
  |some d,some ds=>some (d,ds)
  |_,_=>none
 |_,_=>none
def Uv (g0 base n:Nat)(S:zE)(st:St):Option S.den:=match OE st g0 S.grow with
 |none=>none
 |some st=>
  let ids:=DW st.h n (S.slots.flatMap fun s=>yU (st.t s.1)) []
  match OF (yLu st.h fun i=>(fy i ids 0).map (base+·)) st.t S.slots,OG (w9 st.h fun i=>(fy i ids 0).map (base+·)) st.h S.objs ids with
  |some a,some b=>some (a,b)
  |_,_=>none
def JC (S:zE)(st:St):Option S.den:=Uv (pre+500000) (pre+iw) 400 S st
def DX:(l:List zE)→St→Option (rU l)
 |[],_=>none
 |[S],st=>JC pre S st
 |S::T::l,st=>match JC pre S st with
  |some d=>some (.inl d)
  |none=>match DX (T::l) st with
   |some d=>some (.inr d)
   |none=>none
def OH (base:Nat):(l:List zE)→rU l→(St→Option R)→Option R
 |[],_,_=>none
 |[S],d,K=>K (zM base S d)
 |S::T::l,d,K=>match d with
  |.inl d=>K (zM base S d)
  |.inr d=>OH base (T::l) d K
def JD:(l:List (Ex×zE))→Ex→St→Option (wx l)
 |[],_,_=>none
 |[p],e,st=>bif Uo p.1 e then JC pre p.2 st else none
 |p::q::l,e,st=>match(bif Uo p.1 e then JC pre p.2 st else none) with
  |some d=>some (.inl d)
  |none=>match JD (q::l) e st with
   |some d=>some (.inr d)
   |none=>none
def DY (base:Nat):(l:List (Ex×zE))→wx l→(Ex→St→Option R)→Option R
 |[],_,_=>none
 |[p],d,K=>K p.1 (zM base p.2 d)
 |p::q::l,d,K=>match d with
  |.inl d=>K p.1 (zM base p.2 d)
  |.inr d=>DY base (q::l) d K
def yKl ins outs {X:Type}(mQ:wx outs→X)(again:rU ins→Option X):Ex→St→Option X
 |.normal,st=>match DX pre ins st with
  |some d=>again d
  |none=>none
 |e,st=>match JD pre outs e st with
  |some o=>some (mQ o)
  |none=>none
def A0:Code→Option Nat
 |.region id _ _=>some id
 |.seq a b=>match A0 a with|some i=>some i|none=>A0 b
 |.cond _ a b=>match A0 a with|some i=>some i|none=>A0 b
 |.block _ b|.loop b|.scope b=>A0 b
 |_=>none
def xa (b:Code):Option zV:=match A0 b with
 |some i=>A.loops.lookup i
 |none=>none
def vXo (b:Code):Nat:=match A0 b with
 |some i=>(A.unr.lookup i).getD 0
 |none=>0
def Uw (b:St→(Ex→St→Option R)→Option R):Nat→St→(Ex→St→Option R)→Option R
 |0,_,_=>none
 |n+1,st,K=>b st fun e st=>match e with
  |.normal=>Uw b n st K
  |e=>K e st
def OI (c:Operand)(b:Bool)(st:St):St:=match A.wise,c with
 |true,.tmp s=>{st with t:=jX st.t s (.c (.bool b))}
 |_,_=>st
def kD:Code→St→(Ex→St→Option R)→Option R
 |.skip,st,K=>K .normal st
 |.region _ ops draw,st,K=>bif draw
   then bif !JB ops then none else DV E A k pre na nt ops (Region.before ops) (ops.toList.zipIdx.map fun p=>(p.2,p.1)) [] st (K .normal)
   else OD E A k pre na nt ops (ops.toList.zipIdx.map fun p=>(p.2,p.1)) st (K .normal)
 |.seq a b,st,K=>kD a st fun e st=>match e with
  |.normal=>kD b st K
  |e=>K e st
 |.cond c a b,st,K=>match st.ev c with
  |.c (.bool t)=>bif t then kD a (OI A c true st) K else kD b (OI A c false st) K
  |_=>none
 |.block id b,st,K=>kD b st fun e st=>match e with
  |.exit i=>bif Nat.beq i id then K .normal st else K (.exit i) st
  |e=>K e st
 |.loop b,st,K=>match xa A b with
  |none=>Uw (kD b) (vXo A b) st K
  |some L=>match DX pre L.ins st with
   |none=>none
   |some d=>(L.sum k d).bind fun x=>L.elim (pre+iw) x R K
 |.exit id,st,K=>K (.exit id) st
 |.ret,st,K=>K .ret st
 |_,_,_=>none
def xc (st:St):ResultVar→Option zY
 |.tmp t=>some (st.t t)
 |.cell a t=>match st.t a with
  |.c (.ptr id off)=>match st.h id with
   |some (.box _ cells)=>match mO cells off (E.P.cellsOf t) with
    |some vs=>rR (eK E.P t) vs
    |none=>none
   |_=>none
  |_=>none
def DZ:zY→Option (Bool×List qC)
 |.c v=>some (false,[v])
 |.agg vs=>some (true,vs)
 |_=>none
def OJ (fn:Func)(st:St):Option zY:=match fn.results.toList with
 |[]=>some (.tup [])
 |[r]=>xc E st r
 |rs=>match rs.mapM (fun r=>(xc E st r).bind DZ) with
  |some xs=>some (.tup xs)
  |none=>none
def OK (args:List zY):Nat→zY:=fun n=>args.getD n .skp
def kE (fn:Func)(args:List zY)(h:Hp)(K:zY→St→Option R):Option R:=match fn.body with
 |none=>none
 |some code=>bif Nat.ble args.length fn.ntmps then kD E A k pre na fn.ntmps code {t:=OK args,h:=h} fun e st=>match e with
  |.exit _=>none
  |_=>match OJ E fn st with
   |some v=>K v st
   |none=>none
  else none
end
def _root_.Go.Value.one1:Value→Bool
 |.agg _|.tuple _=>false
 |_=>true
def yX (H:Array Go.Obj)(B o:Nat):Option Value:=match H[B]? with
 |some (.cells c _ _)=>c[o]?
 |_=>none
def qX (H:Array Go.Obj)(B:Nat):Nat:=match H[B]? with
 |some (.cells c _ _)=>c.size
 |_=>0
theorem tR (w:World) B o:w.cell? ⟨B,o,none⟩=yX w.heap B o:=by
 rfl
theorem Ux {H H' B}(h:H'[B]? =H[B]?) o:yX H' B o=yX H B o:=by unfold yX;rw[h]
theorem D4 {H H' B}(h:H'[B]? =H[B]?):qX H' B=qX H B:=by unfold qX;rw[h]
def qF (H:Array Go.Obj)(F:Nat→Prop):(t:Ty)→t.den→(Nat→Option Value)→Prop
 |.int k,n,rd=>rd 0=some (.int k n)
 |.bool,b,rd=>rd 0=some (.bool b)
 |.sl t,xs,rd=>∃A n c,rd 0=some (.slice A n c)∧n=xs.length∧n≤c∧
   ((xs=[]∧(A=none→c=0))∨∃B o,A=some ⟨B,o,none⟩∧F B∧∀i (h:i<xs.length),qF H F t xs[i] (fun j=>yX H B (o+i*t.size+j)))
 |.pair a b,p,rd=>qF H F a p.1 rd∧qF H F b p.2 (fun j=>rd (j+a.size))
theorem vD {H H' F F'}(hF:∀b,F b→F' b)(hs:∀b,F b→H'[b]? =H[b]?):
  ∀t x rd gv,(∀j,j<t.size→gv j=rd j)→qF H F t x rd→qF H' F' t x gv
 |.int k,n,rd,gv,hr,h
 |.bool,n,rd,gv,hr,h=>by simp[qF] at h⊢;rw[hr 0 (by simp[Ty.size])];exact h
 |.sl t,xs,rd,gv,hr,h=>by
  obtain⟨A,n,c,h1,h2,h3,h4⟩:=h;refine⟨A,n,c,by rw[hr 0 (by simp[Ty.size])];exact h1,h2,h3,?_⟩;rcases h4 with h4|⟨B,o,e,hB,h4⟩
  ·simp_all
  ·exact .inr ⟨B,o,e,hF B hB,fun i hi=>vD hF hs t _ _ _ (fun j _=>Ux (hs B hB) _) (h4 i hi)⟩
 |.pair a b,p,rd,gv,hr,h=>by
  exact⟨vD hF hs a _ _ _ (fun j hj=>hr j (by simp[Ty.size];omega)) h.1,
   vD hF hs b _ _ _ (fun j hj=>hr _ (by simp[Ty.size];omega)) h.2⟩
theorem Ty.size_pos:∀t:Ty,0<t.size
 |.int _|.bool|.sl _=>by simp[Ty.size]
 |.pair a b=>by have:=Ty.size_pos a;simp[Ty.size];omega
structure qE where
 blk:Option Nat
 len:Nat
 sz:Nat
 ver:Nat
 rows:List (Option Nat×Nat)
def qE.fp (C:qE):List Nat:=C.blk.toList++C.rows.filterMap (·.1)
structure qE.le (C C':qE):Prop where
 blk:C'.blk=C.blk
 len:C'.len=C.len
 sz:C'.sz=C.sz
 ver:C.ver≤C'.ver
 rows:C'.ver=C.ver→C'.rows=C.rows
theorem qE.le_refl (C:qE):C.le C:=⟨rfl,rfl,rfl,by simp,by simp⟩
theorem qE.le_trans {A B C:qE}(h:A.le B)(k:B.le C):A.le C:=
 ⟨k.blk.trans h.blk,k.len.trans h.len,k.sz.trans h.sz,Nat.le_trans h.ver k.ver,fun e=>by
  have:=h.ver;have:=k.ver;rw[k.rows (by omega),h.rows (by omega)]⟩
structure zL where
 κ:Nat→Option qE
 F:Nat→Prop
 G:Nat→Prop
 h:Hp
 H:Array Go.Obj
def zP {α β:Type}(R:α→β→Prop):List α→List β→Prop
 |[],[]=>True
 |a::l,b::m=>R a b∧zP R l m
 |_,_=>False
theorem zP.mono {α β R S}(h:∀a b,R a b→S a b):∀{l:List α} {m:List β},zP R l m→zP S l m
 |[],[],_=>trivial
 |_::_,_::_,hh=>⟨h _ _ hh.1,zP.mono h hh.2⟩
theorem zP.length {α β R}:∀{l:List α} {m:List β},zP R l m→l.length=m.length
 |[],[],_=>rfl
 |_::_,_::_,hh=>by simp[zP.length hh.2]
theorem zP.get {α β R}:∀{l:List α} {m:List β},zP R l m→∀i h (h':i<m.length),R l[i] m[i]
 |_::_,_::_,hh,0,_,_=>hh.1
 |_::_,_::_,hh,i+1,h,h'=>zP.get hh.2 i (by simp_all) (by simp_all)
theorem zP.of_get {α β R}:∀{l:List α} {m:List β},l.length=m.length→(∀i h (h':i<m.length),R l[i] m[i])→zP R l m
 |[],[],_,_=>trivial
 |a::l,b::m,hl,h=>⟨h 0 (by simp) (by simp),zP.of_get (by simp_all) fun i h1 h2=>h (i+1) (by simp_all) (by simp_all)⟩
theorem zP.append {α β R}:∀{l l':List α} {m m':List β},zP R l m→zP R l' m'→zP R (l++l') (m++m')
 |[],_,[],_,_,k=>k
 |_::_,_,_::_,_,h,k=>⟨h.1,zP.append h.2 k⟩
theorem zP.drop {α β R}:∀n {l:List α} {m:List β},zP R l m→zP R (l.drop n) (m.drop n)
 |0,_,_,h=>h
 |n+1,[],[],_=>trivial
 |n+1,_::_,_::_,h=>zP.drop n h.2
theorem zP.take {α β R}:∀n {l:List α} {m:List β},zP R l m→zP R (l.take n) (m.take n)
 |0,_,_,_=>by simp[zP]
 |n+1,[],[],_=>trivial
 |n+1,_::_,_::_,h=>⟨h.1,zP.take n h.2⟩
theorem zP.set {α β R}{a:α}{b:β}(D5:R a b):∀n {l m},zP R l m→zP R (l.set n a) (m.set n b)
 |_,[],[],_=>trivial
 |0,_::_,_::_,h=>⟨D5,h.2⟩
 |n+1,_::_,_::_,h=>⟨h.1,zP.set D5 n h.2⟩
def jE (H:Array Go.Obj)(C:qE)(lo n:Nat)(v:Value):Prop:=∃A c,v=.slice A n c∧match C.blk with
 |none=>A=none∧n=0∧c=0
 |some B=>n≤c∧∃a,A=some ⟨B,a,none⟩∧(c=0∨a=lo*C.sz)∧(lo+c)*C.sz≤qX H B
def mR (H:Array Go.Obj)(rb:Option Nat)(n:Nat)(v:Value):Prop:=match rb with
 |none=>v=.slice none 0 0∧n=0
 |some B=>∃a c,v=.slice (some ⟨B,a,none⟩) n c∧n≤c∧(c=0∨a=0)∧c≤qX H B
def Uy (C:qE)(lo:Nat)(v:Value):Prop:=∃A n c,v=.slice A n c∧C.len≤lo+c
def zZ (M:zL):qC→Value→Prop
 |.undef,v=>v.one1=true
 |.int k n,v=>v=.int k n
 |.bool b,v=>v=.bool b
 |.fsl sh t xs,v=>qF M.H (bif sh then M.G else M.F) (.sl t) xs (fun _=>some v)
 |.nsl,v=>v=.slice none 0 0
 |.nfl sh t xs,v=>(∃a n c,v=.slice (some a) n c)∧qF M.H (bif sh then M.G else M.F) (.sl t) xs (fun _=>some v)
 |.osl id r,v=>∃C,M.κ id=some C∧match r with
  |none=>jE M.H C 0 C.len v
  |some (lo,n)=>lo+n≤C.len∧jE M.H C lo n v∧Uy C lo v
 |.bsl id off n,v=>∃C B,M.κ id=some C∧C.blk=some B∧v=.slice (some ⟨B,off,none⟩) n n
 |.ptr id off,v=>∃C B,M.κ id=some C∧C.blk=some B∧v=.pointer (some ⟨B,off,none⟩)
 |.eptr id i off,v=>∃C B,M.κ id=some C∧C.blk=some B∧i<C.len∧v=.pointer (some ⟨B,i*C.sz+off,none⟩)
 |.fptr sh t x off,v=>∃B o,v=.pointer (some ⟨B,o+off,none⟩)∧(bif sh then M.G else M.F) B∧qF M.H (bif sh then M.G else M.F) t x (fun j=>yX M.H B (o+j))
 |.mrow id i ver,v=>∃C,M.κ id=some C∧v.one1=true∧ver≤C.ver∧(C.ver=ver→∃rb rl,C.rows[i]? =some (rb,rl)∧mR M.H rb rl v)
 |.mptr id i,v=>∃C B,M.κ id=some C∧C.blk=some B∧i<C.len∧v=.pointer (some ⟨B,i,none⟩)
 |.meptr id i j ver,v=>∃C,M.κ id=some C∧v.one1=true∧ver≤C.ver∧(C.ver=ver→∃B rl,C.rows[i]? =some (some B,rl)∧j<rl∧v=.pointer (some ⟨B,j,none⟩))
 |.nilp,v=>v=.pointer none
 |.nilf,v=>v=.nilFunc
 |.nilm,v=>v=.map none
 |.fn f cap,v=>∃cv,v=.func (.func f) #[] cv∧zP (fun id u=>∃C B,M.κ id=some C∧C.blk=some B∧u=.pointer (some ⟨B,0,none⟩)) cap cv.toList
 |.map id,v=>∃C B,M.κ id=some C∧C.blk=some B∧v=.map (some B)
 |.str xs,v=>v=.string ⟨(nH xs).toArray⟩
theorem jE.one {H C lo n v}(h:jE H C lo n v):v.one1=true:=by
 obtain⟨A,c,rfl,_⟩:=h;rfl
theorem zZ.one {M c v}(h:zZ M c v):v.one1=true:=by
 cases c with
 |undef=>exact h
 |fsl sh t xs=>obtain⟨A,n,c,e,_⟩:=h;simp at e;rw[e];rfl
 |nfl sh t xs=>obtain⟨⟨a,n,c,e⟩,_⟩:=h;rw[e];rfl
 |osl id r=>
  obtain⟨C,_,h⟩:=h;cases r with
  |none=>exact jE.one h
  |some p=>exact jE.one h.2.1
 |bsl id off n=>obtain⟨C,B,_,_,rfl⟩:=h;rfl
 |ptr id off=>obtain⟨C,B,_,_,rfl⟩:=h;rfl
 |eptr id i off=>obtain⟨C,B,_,_,_,rfl⟩:=h;rfl
 |fptr sh t x off=>obtain⟨B,o,rfl,_⟩:=h;rfl
 |mrow id i ver=>obtain⟨C,_,h,_⟩:=h;exact h
 |mptr id i=>obtain⟨C,B,_,_,_,rfl⟩:=h;rfl
 |meptr id i j ver=>obtain⟨C,_,h,_⟩:=h;exact h
 |fn f cap=>obtain⟨cv,rfl,_⟩:=h;rfl
 |map id=>obtain⟨C,B,_,_,rfl⟩:=h;rfl
 |_=>rw[show v=_ from h];rfl
def xd (M:zL)(x:Bool×List qC)(v:Value):Prop:=match x with
 |(false,[c])=>zZ M c v
 |(true,cs)=>∃vs,v=.agg vs∧zP (zZ M) cs vs.toList
 |_=>False
def zX (M:zL):zY→Value→Prop
 |.undef,_=>True
 |.skp,v=>v=undef
 |.c x,v=>zZ M x v
 |.agg cs,v=>∃vs,v=.agg vs∧zP (zZ M) cs vs.toList
 |.tup xs,v=>∃vs,v=.tuple vs∧zP (xd M) xs vs.toList
def Obj.owned:Obj→Bool
 |.box o _=>o
 |.arr o _ _=>o
 |.robox _=>false
 |.mat _ _=>true
 |.pmat _ _ _=>true
 |.imap _=>true
 |.gone=>false
def fz (n:Int):List MapEntry→Option Value
 |[]=>none
 |e::es=>match e.key with
  |.int .i64 m=>if n=m then some e.val else fz n es
  |_=>fz n es
def vA (M:zL)(o:Obj)(C:qE):Prop:=match o with
 |.box own cells=>∃B vals e,C.blk=some B∧C.rows=[]∧M.H[B]? =some (.cells vals e (0,0))∧zP (zZ M) cells vals.toList∧(own=false→M.G B)
 |.robox cells=>∃B vals e,C.blk=some B∧C.rows=[]∧M.H[B]? =some (.cells vals e (0,0))∧zP (zZ M) cells vals.toList∧M.F B
 | .arr own t xs => C.len = xs.length ∧ C.sz = t.size ∧ (own = true → C.rows = []) ∧ (match C.blk with
  |none=>xs=[]
  |some B=>∃vals e,M.H[B]? =some (.cells vals e (0,0))∧(own=false→M.G B)∧xs.length*t.size≤vals.size∧
    ∀i (h:i<xs.length),qF M.H M.G t xs[i] (fun j=>vals[i*t.size+j]?))
 | .mat ver xs => C.ver = ver ∧ C.len = xs.length ∧ C.sz = 1 ∧ C.rows.length = xs.length ∧ C.fp.Nodup ∧ (match C.blk with
  |none=>xs=[]
  |some B=>∃vals e,M.H[B]? =some (.cells vals e (0,0))∧xs.length≤vals.size∧
    ∀i (h:i<xs.length),∃rb v,C.rows[i]? =some (rb,xs[i].length)∧vals[i]? =some v∧mR M.H rb xs[i].length v∧
     (∀R,rb=some R→∃rv er,M.H[R]? =some (.cells rv er (0,0))∧∀j (h':j<xs[i].length),rv[j]? =some (.int .i64 xs[i][j])))
 | .pmat ver xs n => C.ver = ver ∧ C.len = n ∧ C.sz = 1 ∧ C.rows.length = xs.length ∧ C.fp.Nodup ∧ xs.length ≤ n ∧ (match C.blk with
  |none=>n=0
  |some B=>∃vals e,M.H[B]? =some (.cells vals e (0,0))∧n≤vals.size∧
    ∀i (h:i<xs.length),∃rb v,C.rows[i]? =some (rb,xs[i].length)∧vals[i]? =some v∧mR M.H rb xs[i].length v∧
     (∀R,rb=some R→∃rv er,M.H[R]? =some (.cells rv er (0,0))∧∀j (h':j<xs[i].length),rv[j]? =some (.int .i64 xs[i][j])))
 |.imap df=>∃B es ck,C.blk=some B∧C.rows=[]∧M.H[B]? =some (.map es ck)∧(∀e∈es.toList,∃n b,e.key=.int .i64 n∧e.val=.bool b)∧
   ∀n,fz n es.toList=(df.lookup n).map .bool
 |.gone=>True
def qN (M:zL)(b:Nat):Prop:=∃id o C,M.h id=some o∧o.owned=true∧M.κ id=some C∧b∈C.fp
structure Ok (M:zL):Prop where
 obj:∀id o,M.h id=some o→∃C,M.κ id=some C∧vA M o C
 non:∀id,M.h id=none→M.κ id=none
 disj:∀i j oi oj Ci Cj b,i≠j→M.h i=some oi→M.h j=some oj→oi.owned=true→oj.owned=true→M.κ i=some Ci→M.κ j=some Cj→b∈Ci.fp→b∈Cj.fp→False
 own:∀b,qN M b→¬M.F b∧b<M.H.size
 GF:∀b,M.G b→M.F b
 Flt:∀b,M.F b→b<M.H.size
structure yT (M M':zL):Prop where
 κ:∀id C,M.κ id=some C→∃C',M'.κ id=some C'∧C.le C'
 F:∀b,M.F b→M'.F b
 G:∀b,M.G b→M'.G b
 same:∀b,M.F b→M'.H[b]? =M.H[b]?
 sameG:∀b,M.G b→M'.H[b]? =M.H[b]?
 bsz:∀b,b<M.H.size→qX M'.H b=qX M.H b
theorem vZq {H b}(h:¬b<H.size):qX H b=0:=by
 unfold qX;simp_all
theorem vGg {M M'}(x:yT M M') b:qX M.H b≤qX M'.H b:=by
 by_cases h:b<M.H.size
 ·rw[x.bsz b h];omega
 ·rw[vZq h];omega
theorem jE.ext {M M'}(x:yT M M'){C C'}(le:C.le C'){lo n v}(h:jE M.H C lo n v):jE M'.H C' lo n v:=by
 obtain⟨A,c,rfl,h⟩:=h;refine⟨A,c,rfl,?_⟩;rw[le.blk];cases hb:C.blk with
 |none=>simp_all
 |some B=>
  rw[hb] at h;obtain⟨h0,a,h1,h2,h3⟩:=h;exact⟨h0,a,h1,by rw[le.sz];exact h2,by rw[le.sz];exact Nat.le_trans h3 (vGg x B)⟩
theorem mR.ext {M M'}(x:yT M M'){rb n v}(h:mR M.H rb n v):mR M'.H rb n v:=by
 cases rb with
 |none=>exact h
 |some B=>
  obtain⟨a,c,h1,h2,h3,h4⟩:=h;exact⟨a,c,h1,h2,h3,Nat.le_trans h4 (vGg x B)⟩
theorem zZ.ext {M M'}(x:yT M M'){c v}(h:zZ M c v):zZ M' c v:=by
 cases c with
 |fsl sh t xs=>
  cases sh with
  |true=>exact vD x.G x.sameG _ _ _ _ (fun _ _=>rfl) h
  |false=>exact vD x.F x.same _ _ _ _ (fun _ _=>rfl) h
 |nfl sh t xs=>
  cases sh with
  |true=>exact⟨h.1,vD x.G x.sameG _ _ _ _ (by simp) h.2⟩
  |false=>exact⟨h.1,vD x.F x.same _ _ _ _ (by simp) h.2⟩
 |osl id r=>
  obtain⟨C,hC,h⟩:=h;obtain⟨C',aF,le⟩:=x.κ id C hC;refine⟨C',aF,?_⟩;cases r with
  |none=>rw[le.len];exact jE.ext x le h
  |some p=>exact⟨by rw[le.len];omega,jE.ext x le h.2.1,by unfold Uy;rw[le.len];exact h.2.2⟩
 |bsl id off n=>
  obtain⟨C,B,hC,hB,h⟩:=h;obtain⟨C',aF,le⟩:=x.κ id C hC;exact⟨C',B,aF,le.blk.trans hB,h⟩
 |ptr id off=>
  obtain⟨C,B,hC,hB,h⟩:=h;obtain⟨C',aF,le⟩:=x.κ id C hC;exact⟨C',B,aF,le.blk.trans hB,h⟩
 |eptr id i off=>
  obtain⟨C,B,hC,hB,hi,h⟩:=h;obtain⟨C',aF,le⟩:=x.κ id C hC;exact⟨C',B,aF,le.blk.trans hB,by rw[le.len];exact hi,by rw[le.sz];exact h⟩
 |fptr sh t y off=>
  obtain⟨B,o,h1,h2,h3⟩:=h;cases sh with
  |true=>exact⟨B,o,h1,x.G B h2,vD x.G x.sameG _ _ _ _ (fun j _=>Ux (x.sameG B h2) _) h3⟩
  |false=>exact⟨B,o,h1,x.F B h2,vD x.F x.same _ _ _ _ (fun j _=>Ux (x.same B h2) _) h3⟩
 |mrow id i ver=>
  obtain⟨C,hC,h1,hle,h⟩:=h;obtain⟨C',aF,le⟩:=x.κ id C hC;have:=le.ver;refine⟨C',aF,h1,by omega,fun e=>?_⟩;obtain⟨rb,rl,h2,h3⟩:=h (by omega);exact⟨rb,rl,by rw[le.rows (by omega)];exact h2,mR.ext x h3⟩
 |mptr id i=>
  obtain⟨C,B,hC,hB,hi,h⟩:=h;obtain⟨C',aF,le⟩:=x.κ id C hC;exact⟨C',B,aF,le.blk.trans hB,by rw[le.len];exact hi,h⟩
 |meptr id i j ver=>
  obtain⟨C,hC,h1,hle,h⟩:=h;obtain⟨C',aF,le⟩:=x.κ id C hC;have:=le.ver;refine⟨C',aF,h1,by omega,fun e=>?_⟩;obtain⟨B,rl,h2,h3⟩:=h (by omega);exact⟨B,rl,by rw[le.rows (by omega)];exact h2,h3⟩
 |fn f cap=>
  obtain⟨cv,h1,h2⟩:=h;refine⟨cv,h1,h2.mono fun id u ⟨C,B,hC,hB,hu⟩=>?_⟩;obtain⟨C',aF,le⟩:=x.κ id C hC;exact⟨C',B,aF,le.blk.trans hB,hu⟩
 |map id=>
  obtain⟨C,B,hC,hB,h⟩:=h;obtain⟨C',aF,le⟩:=x.κ id C hC;exact⟨C',B,aF,le.blk.trans hB,h⟩
 |_=>exact h
theorem xd.ext {M M'}(x:yT M M'){p v}(h:xd M p v):xd M' p v:=by
 obtain⟨b,cs⟩:=p;cases b with
 |true=>
  obtain⟨vs,h1,h2⟩:=h;exact⟨vs,h1,h2.mono fun _ _ hc=>hc.ext x⟩
 |false=>
  cases cs with
  |nil=>exact h
  |cons c cs=>cases cs with
   |nil=>exact zZ.ext (c:=c) x h
   |cons _ _=>exact h
theorem zX.ext {M M'}(x:yT M M'){a v}(h:zX M a v):zX M' a v:=by
 cases a with
 |undef=>trivial
 |skp=>exact h
 |c c=>exact zZ.ext (c:=c) x h
 |agg cs=>
  obtain⟨vs,h1,h2⟩:=h;exact⟨vs,h1,h2.mono fun _ _ hc=>hc.ext x⟩
 |tup xs=>
  obtain⟨vs,h1,h2⟩:=h;exact⟨vs,h1,h2.mono fun _ _ hc=>hc.ext x⟩
theorem vA.ext {M M'}(x:yT M M'){o C}(hb:o.owned=true→∀b∈C.fp,M'.H[b]? =M.H[b]?)(h:vA M o C):vA M' o C:=by
 cases o with
 |box own cells=>
  obtain⟨B,vals,e,h1,h2,h3,h4,h5⟩:=h;have hs:M'.H[B]? =M.H[B]? :=by
   cases own with
   |true=>exact hb rfl B (by simp[qE.fp,h1])
   |false=>exact x.sameG B (h5 rfl)
  exact⟨B,vals,e,h1,h2,by simp_all,h4.mono fun _ _ hc=>hc.ext x,fun h=>x.G B (h5 h)⟩
 |robox cells=>
  obtain⟨B,vals,e,h1,h2,h3,h4,h5⟩:=h;exact⟨B,vals,e,h1,h2,by rw[x.same B h5];exact h3,h4.mono fun _ _ hc=>hc.ext x,x.F B h5⟩
 |arr own t xs=>
  obtain⟨h1,h2,h3,h4⟩:=h;refine⟨h1,h2,h3,?_⟩;cases hB:C.blk with
  |none=>simp_all
  |some B=>
   rw[hB] at h4;obtain⟨vals,e,h5,h6,h7,h8⟩:=h4;have hs:M'.H[B]? =M.H[B]? :=by
    cases own with
    |true=>exact hb rfl B (by simp[qE.fp,hB])
    |false=>exact x.sameG B (h6 rfl)
   exact⟨vals,e,by simp_all,fun h=>x.G B (h6 h),h7,fun i hi=>vD x.G x.sameG _ _ _ _ (by simp) (h8 i hi)⟩
 |mat ver xs=>
  obtain⟨h1,h2,h3,h4,h5,h6⟩:=h;refine⟨h1,h2,h3,h4,h5,?_⟩;cases hB:C.blk with
  |none=>rw[hB] at h6;exact h6
  |some B=>
   rw[hB] at h6;obtain⟨vals,e,h7,h8,h9⟩:=h6;refine⟨vals,e,by rw[hb rfl B (by simp[qE.fp,hB])];exact h7,h8,fun i hi=>?_⟩;obtain⟨rb,v,k1,k2,k3,k4⟩:=h9 i hi;refine⟨rb,v,k1,k2,k3.ext x,fun R hR=>?_⟩;obtain⟨rv,er,k5,k6⟩:=k4 R hR;refine⟨rv,er,?_,k6⟩;rw[hb rfl R ?_]
   ·exact k5
   ·simp[qE.fp];exact by grind
 |pmat ver xs n=>
  obtain⟨h1,h2,h3,h4,h5,h0,h6⟩:=h;refine⟨h1,h2,h3,h4,h5,h0,?_⟩;cases hB:C.blk with
  |none=>simp_all
  |some B=>
   rw[hB] at h6;obtain⟨vals,e,h7,h8,h9⟩:=h6;refine⟨vals,e,by rw[hb rfl B (by simp[qE.fp,hB])];exact h7,h8,fun i hi=>?_⟩;obtain⟨rb,v,k1,k2,k3,k4⟩:=h9 i hi;refine⟨rb,v,k1,k2,k3.ext x,fun R hR=>?_⟩;obtain⟨rv,er,k5,k6⟩:=k4 R hR;refine⟨rv,er,?_,k6⟩;rw[hb rfl R ?_]
   ·exact k5
   ·simp only[qE.fp];grind
 |imap df=>
  obtain⟨B,es,ck,h1,h2,h3,h4,h5⟩:=h;exact⟨B,es,ck,h1,h2,by rw[hb rfl B (by simp[qE.fp,h1])];exact h3,h4,h5⟩
 |gone=>trivial
structure yR (M M':zL):Prop where
 ext:yT M M'
 size:M.H.size≤M'.H.size
 frame:∀b,b<M.H.size→¬qN M b→M'.H[b]? =M.H[b]?
 own:∀b,qN M' b→b<M.H.size→qN M b
 Gb:∀b,M'.G b→b<M.H.size→M.G b∨qN M b
 Fb:∀b,M'.F b→b<M.H.size→M.F b∨qN M b
theorem yT.refl M:yT M M:=⟨fun _ C h=>⟨C,h,C.le_refl⟩,by simp,by simp,by simp,by simp,by simp⟩
theorem yR.refl M:yR M M:=⟨yT.refl M,by simp,by simp,by grind,by grind,by grind⟩
theorem yT.trans {M M' mS}(hs:M.H.size≤M'.H.size)(x:yT M M')(y:yT M' mS):yT M mS where
 κ id C h:=by
  obtain⟨C',h',le⟩:=x.κ id C h;obtain⟨C'',h'',le'⟩:=y.κ id C' h';exact⟨C'',h'',qE.le_trans le le'⟩
 F b h:=y.F b (x.F b h)
 G b h:=y.G b (x.G b h)
 same b h:=(y.same b (x.F b h)).trans (x.same b h)
 sameG b h:=(y.sameG b (x.G b h)).trans (x.sameG b h)
 bsz b h:=(y.bsz b (by omega)).trans (x.bsz b h)
theorem yR.trans {M M' mS}(x:yR M M')(y:yR M' mS):yR M mS where
 ext:=x.ext.trans x.size y.ext
 size:=Nat.le_trans x.size y.size
 frame b h hn:=by
  have:=x.size;rw[y.frame b (by omega) fun ho=>hn (x.own b ho h),x.frame b h hn]
 own b ho h:=x.own b (y.own b ho (by have:=x.size;omega)) h
 Gb b hg h:=by
  rcases y.Gb b hg (by have:=x.size;omega) with k|k
  ·exact x.Gb b k h
  ·exact .inr (x.own b k h)
 Fb b hg h:=by
  rcases y.Fb b hg (by have:=x.size;omega) with k|k
  ·exact x.Fb b k h
  ·exact .inr (x.own b k h)
theorem Ok.build {M M'}(ok:Ok M)(x:yT M M')(T:Nat→Prop)
  (hh:∀id,¬T id→M'.h id=M.h id) (hκ:∀id,¬T id→M'.κ id=M.κ id)
  (keep:∀id o C,¬T id→M.h id=some o→o.owned=true→M.κ id=some C→∀b∈C.fp,M'.H[b]? =M.H[b]?)
  (ahl:∀id o C,¬T id→M.h id=some o→o.owned=true→M.κ id=some C→∀b∈C.fp,¬M'.F b)
  (size:M.H.size≤M'.H.size)
  (obj:∀id o,T id→M'.h id=some o→∃C,M'.κ id=some C∧vA M' o C)
  (non:∀id,T id→M'.h id=none→M'.κ id=none)
  (disj:∀id o C b,T id→M'.h id=some o→o.owned=true→M'.κ id=some C→b∈C.fp→
   (∀j oj Cj,j≠id→M'.h j=some oj→oj.owned=true→M'.κ j=some Cj→b∉Cj.fp)∧¬M'.F b∧b<M'.H.size)
  (GF:∀b,M'.G b→M'.F b) (Flt:∀b,M'.F b→b<M'.H.size):Ok M' where
 obj id o h:=by
  by_cases hT:T id
  ·exact obj id o hT h
  ·rw[hh id hT] at h;obtain⟨C,hC,hO⟩:=ok.obj id o h;exact⟨C,by rw[hκ id hT];exact hC,hO.ext x fun ho=>keep id o C hT h ho hC⟩
 non id h:=by
  by_cases hT:T id
  ·exact non id hT h
  ·rw[hκ id hT];exact ok.non id (by rw[←hh id hT];exact h)
 disj i j oi oj Ci Cj b mT hi hj hoi hoj hCi eM JE hbj:=by
  by_cases hTi:T i
  ·grind
  ·by_cases hTj:T j
   ·grind
   ·rw[hh i hTi] at hi;rw[hh j hTj] at hj;rw[hκ i hTi] at hCi;rw[hκ j hTj] at eM;exact ok.disj i j oi oj Ci Cj b mT hi hj hoi hoj hCi eM JE hbj
 own b hb:=by
  obtain⟨id,o,C,h,ho,hC,hb⟩:=hb;by_cases hT:T id
  ·exact(disj id o C b hT h ho hC hb).2
  ·rw[hh id hT] at h;rw[hκ id hT] at hC;have:=ok.own b ⟨id,o,C,h,ho,hC,hb⟩;grind
 GF:=GF
 Flt:=Flt
def κset (κ:Nat→Option qE)(id:Nat)(C:qE):Nat→Option qE:=fun n=>if n=id then some C else κ n
theorem κset_same κ id C:κset κ id C id=some C:=by simp[κset]
theorem κset_ne κ {id n} C (h:n≠id):κset κ id C n=κ n:=by simp[κset,h]
theorem yV h id o:yM h id o id=some o:=by simp[yM]
theorem yY h {id n} o (hn:n≠id):yM h id o n=h n:=by
 have:Nat.beq n id=false:=by
  cases hb:Nat.beq n id with
  |true=>simp_all
  |false=>rfl
 simp[yM,this]
theorem pN {H:Array Go.Obj}{o b}(h:b<H.size):(H.push o)[b]? =H[b]? :=by
 grind
theorem A2 {H:Array Go.Obj}{o}:(H.push o)[H.size]? =some o:=by simp
def zL.new (M:zL)(id:Nat)(o:Obj)(C:qE)(ob:Go.Obj):zL:={M with κ:=κset M.κ id C,h:=yM M.h id o,H:=M.H.push ob}
theorem zL.new_ext {M}(ok:Ok M){id}(an:M.h id=none) o C ob:yT M (M.new id o C ob) where
 κ n D h:=by
  have:n≠id:=fun e=>by rw[e,ok.non id an] at h;cases h
  exact⟨D,by simp[zL.new];rw[κset_ne _ _ this];exact h,D.le_refl⟩
 F _ h:=h
 G _ h:=h
 same b h:=pN (ok.Flt b h)
 sameG b h:=pN (ok.Flt b (ok.GF b h))
 bsz b h:=D4 (pN h)
theorem zL.new_ok {M}(ok:Ok M){id}(an:M.h id=none) o C ob (hC:∀b∈C.fp,b=M.H.size)
  (hO:vA (M.new id o C ob) o C):Ok (M.new id o C ob)∧yR M (M.new id o C ob):=by
 have x:=zL.new_ext ok an o C ob;have dH:(M.new id o C ob).H.size=M.H.size+1:=by simp[zL.new]
 have tS:∀b,qN (M.new id o C ob) b→b=M.H.size∨qN M b:=by
  rintro b ⟨n,q,D,h1,h2,h3,h4⟩
  by_cases e:n=id
  ·subst e;simp[zL.new,κset_same] at h1 h3;grind
  ·simp[zL.new] at h1 h3;rw[yY _ _ e] at h1;rw[κset_ne _ _ e] at h3;exact .inr ⟨n,q,D,h1,h2,h3,h4⟩
 refine⟨ok.build x (· =id) (fun n hn=>yY _ _ hn) (fun n hn=>κset_ne _ _ hn) ?_ ?_ (by omega) ?_ ?_ ?_ ok.GF ?_,x,by omega,?_,?_,?_,?_⟩
 ·intro n q D hn h1 h2 h3 b hb;exact pN (ok.own b ⟨n,q,D,h1,h2,h3,hb⟩).2
 ·intro n q D hn h1 h2 h3 b hb;exact(ok.own b ⟨n,q,D,h1,h2,h3,hb⟩).1
 ·rintro n q rfl h1
  simp[zL.new,yV] at h1;subst h1;exact⟨C,κset_same _ _ _,hO⟩
 ·rintro n rfl h1
  simp only[zL.new,yV] at h1;cases h1
 ·rintro n q D b rfl h1 h2 h3 hb
  simp[zL.new,κset_same] at h3;subst h3;have eb:=hC b hb;refine⟨fun j oj Cj hj k1 k2 k3 k4=>?_,fun hF=>?_,by omega⟩
  ·simp[zL.new] at k1 k3;rw[yY _ _ hj] at k1;rw[κset_ne _ _ hj] at k3;have:=(ok.own b ⟨j,oj,Cj,k1,k2,k3,k4⟩).2;omega
  ·have:=ok.Flt b hF;omega
 ·intro b hb;have:=ok.Flt b hb;omega
 ·intro b hb _;exact pN hb
 ·grind
 ·exact fun b h _=>.inl h
 ·exact fun b h _=>.inl h
def zL.write (M:zL)(id:Nat)(o:Obj)(C:qE)(H:Array Go.Obj):zL:={M with κ:=κset M.κ id C,h:=yM M.h id o,H:=H}
theorem zL.write_ext {M}(ok:Ok M){id o C C' H'}(an:M.h id=some o)(aN:o.owned=true)(hC:M.κ id=some C)
    (hle:C.le C') (hH:∀b,b∉C.fp→H'[b]? =M.H[b]?) (cR:∀b,b<M.H.size→qX H' b=qX M.H b) o':yT M (M.write id o' C' H'):=
  have xe:∀b,M.F b→b∉C.fp:=fun b hF hb=>(ok.own b ⟨id,o,C,an,aN,hC,hb⟩).1 hF
  { κ:=fun n D h=>by
      by_cases e:n=id
      · subst e;rw[hC] at h;cases h;exact⟨C',κset_same _ _ _,hle⟩
      · exact⟨D,by simp[zL.write];rw[κset_ne _ _ e];exact h,D.le_refl⟩
    F:=fun _ h=>h
    G:=fun _ h=>h
    same:=fun b h=>hH b (xe b h)
    sameG:=fun b h=>hH b (xe b (ok.GF b h))
    bsz:=cR}
theorem zL.write_ok {M}(ok:Ok M){id o o' C C' H'}(an:M.h id=some o)(aN:o.owned=true)(hC:M.κ id=some C)
  (hle:C.le C') (rY:∀b∈C'.fp,b∈C.fp) (dH:H'.size=M.H.size) (hH:∀b,b∉C.fp→H'[b]? =M.H[b]?) (cR:∀b,b<M.H.size→qX H' b=qX M.H b)
  (hO:vA (M.write id o' C' H') o' C'):Ok (M.write id o' C' H')∧yR M (M.write id o' C' H'):=by
 have x:=zL.write_ext ok an aN hC hle hH cR o';have tS:∀b,qN (M.write id o' C' H') b→qN M b:=by
  rintro b ⟨n,q,D,h1,h2,h3,h4⟩
  by_cases e:n=id
  ·subst e;simp[zL.write,κset_same] at h1 h3;subst h3;exact⟨n,o,C,an,aN,hC,rY b h4⟩
  ·simp[zL.write] at h1 h3;rw[yY _ _ e] at h1;rw[κset_ne _ _ e] at h3;exact⟨n,q,D,h1,h2,h3,h4⟩
 refine⟨ok.build x (· =id) (fun n hn=>yY _ _ hn) (fun n hn=>κset_ne _ _ hn) ?_ ?_ (by simp[zL.write];omega) ?_ ?_ ?_ ok.GF ?_,x,by simp[zL.write];omega,?_,?_,?_,?_⟩
 ·intro n q D hn h1 h2 h3 b hb;exact hH b fun hc=>ok.disj n id q o D C b hn h1 an h2 aN h3 hC hb hc
 ·intro n q D hn h1 h2 h3 b hb;exact(ok.own b ⟨n,q,D,h1,h2,h3,hb⟩).1
 ·rintro n q rfl h1
  simp[zL.write,yV] at h1;subst h1;exact⟨C',κset_same _ _ _,hO⟩
 ·rintro n rfl h1
  simp only[zL.write,yV] at h1;cases h1
 ·rintro n q D b rfl h1 h2 h3 hb
  simp[zL.write,κset_same] at h3;subst h3;have bg:=rY b hb;have:=ok.own b ⟨n,o,C,an,aN,hC,bg⟩;refine⟨fun j oj Cj hj k1 k2 k3 k4=>?_,this.1,by simp[zL.write];omega⟩;simp[zL.write] at k1 k3;rw[yY _ _ hj] at k1;rw[κset_ne _ _ hj] at k3;exact ok.disj j n oj o Cj C b hj k1 an k2 aN k3 hC k4 bg
 ·intro b hb;have:=ok.Flt b hb;simp[zL.write];omega
 ·intro b hb hn;exact hH b fun hc=>hn ⟨id,o,C,an,aN,hC,hc⟩
 ·simp_all
 ·exact fun b h _=>.inl h
 ·exact fun b h _=>.inl h
def zL.freeze (M:zL)(id:Nat)(o:Obj)(C:qE):zL:={M with h:=yM M.h id o,F:=fun b=>M.F b∨b∈C.fp,G:=fun b=>M.G b∨b∈C.fp}
theorem zL.freeze_ok {M}(ok:Ok M){id o o' C}(an:M.h id=some o)(aN:o.owned=true)(hC:M.κ id=some C)
  (lX:o'.owned=false) (hO:vA (M.freeze id o' C) o' C):Ok (M.freeze id o' C)∧yR M (M.freeze id o' C):=by
 have x:yT M (M.freeze id o' C):=⟨fun _ C h=>⟨C,h,C.le_refl⟩,fun _ h=>.inl h,fun _ h=>.inl h,fun _ _=>rfl,fun _ _=>rfl,fun _ _=>rfl⟩;have JF:∀b∈C.fp,qN M b:=fun b hb=>⟨id,o,C,an,aN,hC,hb⟩
 have tS:∀b,qN (M.freeze id o' C) b→qN M b:=by
  rintro b ⟨n,q,D,h1,h2,h3,h4⟩
  by_cases e:n=id
  ·subst e;simp[zL.freeze,yV] at h1;simp_all
  ·simp[zL.freeze] at h1;rw[yY _ _ e] at h1;exact⟨n,q,D,h1,h2,h3,h4⟩
 refine⟨ok.build x (· =id) (fun n hn=>yY _ _ hn) (fun n _=>rfl) (fun _ _ _ _ _ _ _ _ _=>rfl) ?_ (Nat.le_refl _) ?_ ?_ ?_ ?_ ?_,x,Nat.le_refl _,fun _ _ _=>rfl,by grind,?_,?_⟩
 ·rintro n q D hn h1 h2 h3 b hb (hF|hF)
  ·exact(ok.own b ⟨n,q,D,h1,h2,h3,hb⟩).1 hF
  ·exact ok.disj n id q o D C b hn h1 an h2 aN h3 hC hb hF
 ·rintro n q rfl h1
  simp[zL.freeze,yV] at h1;subst h1;exact⟨C,hC,hO⟩
 ·rintro n rfl h1
  simp only[zL.freeze,yV] at h1;cases h1
 ·rintro n q D b rfl h1 h2 h3 hb
  simp[zL.freeze,yV] at h1;simp_all
 ·rintro b (h|h)
  ·exact .inl (ok.GF b h)
  ·exact .inr h
 ·rintro b (h|h)
  ·exact ok.Flt b h
  ·exact(ok.own b (JF b h)).2
 ·rintro b (h|h) _
  all_goals simp_all
 ·rintro b (h|h) _
  all_goals simp_all
end Go.Ab
set_option linter.unusedSimpArgs false
namespace Go.Ab
def OM:List (Bool×zY×vG)→zY→vG→Prop
 |[],_,_=>False
 |(c,a,b)::l,v,u=>(c=true∧v=a∧u=b)∨(c=false∧OM l v u)
def yO (s:yW)(v:zY)(u:vG):Prop:=match s with
 |.alts l=>OM l v u
 |.call _ x f=>∃r,x=some r∧v=(f r).1∧u=(f r).2
 |.call2 _ _ x f g=>(∃r,x=some (.inl r)∧v=(f r).1∧u=(f r).2)∨(∃r,x=some (.inr r)∧v=(g r).1∧u=(g r).2)
theorem yJc {R K}{out:R}:∀{l},T4 K l=some out→∃v u,OM l v u∧K v u=some out
 |(c,a,b)::l,h=>by
  cases c with
  |true=>exact⟨a,b,.inl (by simp),h⟩
  |false=>
   obtain⟨v,u,h1,h2⟩:=yJc (l:=l) h;exact⟨v,u,.inr (by grind),h2⟩
theorem yW.elim_some {R s K}{out:R}(h:s.elim K=some out):∃v u,yO s v u∧K v u=some out:=by
 cases s with
 |alts l=>exact yJc h
 |call X x f=>
  simp[yW.elim,Option.bind_eq_some_iff] at h;obtain⟨r,h1,h2⟩:=h;exact⟨_,_,⟨r,h1,rfl,rfl⟩,h2⟩
 |call2 X Y x f g=>
  simp[yW.elim,Option.bind_eq_some_iff] at h;obtain⟨r,h1,h2⟩:=h;cases r with
  |inl r=>exact⟨_,_,.inl ⟨r,h1,rfl,rfl⟩,h2⟩
  |inr r=>exact⟨_,_,.inr ⟨r,h1,rfl,rfl⟩,h2⟩
theorem wO {v a u}(h:yO (.one a) v u):v=a∧u=[]:=by
 rcases h with⟨_,h1,h2⟩|⟨h,_⟩
 all_goals simp_all
theorem lY {c v a u}(h:yO (.when c a) v u):c=true∧v=a∧u=[]:=by
 rcases h with h|⟨_,h⟩
 ·exact h
 ·exact h.elim
theorem gP {c v a u b}(h:yO (.alts [(c,a,b)]) v u):c=true∧v=a∧u=b:=by
 rcases h with h|⟨_,h⟩
 ·exact h
 ·exact h.elim
theorem Uz {x v u}(h:yO (.ofO x) v u):x=some v∧u=[]:=by
 cases x with
 |none=>exact h.elim
 |some a=>
  obtain⟨rfl,rfl⟩:=wO h;simp
section
variable {P:Program} (w:World)
theorem ON {t d}(h:P.underlying t=some d):∃i,P.info? t=some i:=by
 unfold Program.underlying at h;grind
theorem UA {t i}(h:P.info? t=some i):P.cellsOf t=i.size:=by simp[Program.cellsOf,h]
theorem UB {t i}(h:P.info? t=some i):P.bytesOf t=i.bytes:=by simp[Program.bytesOf,h]
theorem oQ {t}(h:0<P.cellsOf t):∃i,P.info? t=some i:=by
 cases hi:P.info? t with
 |none=>simp[Program.cellsOf,hi] at h
 |some i=>simp
theorem UC {t i}(h:P.info? t=some i):(typeInfo t).run P w=.ok i w:=by simp[typeInfo,h]
theorem iO {t i}(h:P.info? t=some i):(sizeOf t).run P w=.ok (P.cellsOf t) w:=by
 rw[UA h];simp[sizeOf,typeInfo,h]
theorem tT {t b}(h:eK P t=some b):(∃d,P.underlying t=some d)∧(isAgg t).run P w=.ok b w:=by
 unfold eK at h;cases hd:P.underlying t with
 |none=>simp_all
 |some d=>
  rw[hd] at h;cases d<;>simp at h<;>subst h<;>simp[isAgg,run_underlying hd]
theorem yP2 {t cs}(h:zeroCells P t=some cs):∃i v,P.info? t=some i∧i.zero=some v∧v.cells.size=i.size∧v.cells.toList.all AQ=true∧cs=v.cells.toList.map AP:=by
 unfold zeroCells at h;split at h
 ·rename_i i hi;split at h
  ·rename_i v hv;cases hb:(Nat.beq v.cells.size i.size&&v.cells.toList.all AQ) with
   |false=>grind
   |true=>
    rw[hb] at h;simp_all
  ·cases h
 ·cases h
end
theorem UD {v}(h:AQ v=true):v.one1=true:=by cases v<;>first|rfl|cases h
theorem A3 {v:Value}(h:v.one1=true):v.oneCell'=true:=by cases v<;>first|rfl|cases h
theorem yGn M {v}(h:v.one1=true):zZ M (AP v) v:=by
 unfold AP;split<;>first|rfl|exact h
theorem OO M:∀{l},l.all AQ=true→zP (zZ M) (l.map AP) l
 |[],_=>trivial
 |v::l,h=>by
  simp only[List.all_cons,Bool.and_eq_true] at h;exact⟨yGn M (UD h.1),OO M h.2⟩
theorem UE M v:zX M (T5 v) v:=by
 unfold T5;split
 ·rename_i cs;cases hb:cs.toList.all AQ with
  |false=>trivial
  |true=>exact⟨cs,rfl,OO M hb⟩
 ·trivial
 ·exact yGn M (by cases v<;>first|rfl|simp_all|simp_all)
def qK (P:Program)(s:Sem Value)(M:zL)(w:World)(v:zY)(u:vG):Prop:=
 ∃rv w' M',s.run P w=.ok rv w'∧w'.os=w.os∧w'.tape=w.tape∧w'.output=w.output∧M'.H=w'.heap∧M'.h=qJ M.h u∧Ok M'∧yR M M'∧zX M' v rv
theorem qK.pure {P s M w v rv}(ok:Ok M)(hM:M.H=w.heap)(h:s.run P w=.ok rv w)(hv:zX M v rv):qK P s M w v []:=
 ⟨rv,w,M,h,rfl,rfl,rfl,hM,rfl,ok,yR.refl M,hv⟩
theorem D6 sh:∀t x,(cellsOf sh t x).length=t.size
 |.int _,_|.bool,_|.sl _,_=>rfl
 |.pair a b,p=>by simp[cellsOf,D6 sh a,D6 sh b,Ty.size]
theorem OP M sh:∀t x rd,qF M.H (bif sh then M.G else M.F) t x rd→
  ∀j h,∃v,rd j=some v∧zZ M (cellsOf sh t x)[j] v
 |.int k,n,rd,h,j,hj
 |.bool,n,rd,h,j,hj=>by
  simp[cellsOf] at hj;obtain rfl:j=0:=by omega
  exact⟨_,h,rfl⟩
 |.sl t,xs,rd,h,j,hj=>by
  simp[cellsOf] at hj;obtain rfl:j=0:=by omega
  obtain⟨A,n,c,h1,h2⟩:=h;refine⟨_,h1,?_⟩;show qF _ _ _ _ _;simp[qF];grind
 |.pair a b,p,rd,h,j,hj=>by
  simp[cellsOf,D6] at hj;by_cases bd:j<(cellsOf sh a p.1).length
  ·obtain⟨v,h1,h2⟩:=OP M sh a p.1 rd h.1 j bd;refine⟨v,h1,?_⟩;simp[cellsOf,List.getElem_append_left bd];exact h2
  ·have kF:=bd;rw[D6] at kF;obtain⟨v,h1,h2⟩:=OP M sh b p.2 _ h.2 (j-a.size) (by rw[D6];omega);refine⟨v,by grind,?_⟩;have oR:(cellsOf sh a p.1).length≤j:=by omega
   simp[cellsOf,List.getElem_append_right oR];simp[D6];exact h2
theorem JG {cells vs off n}(h:mO cells off n=some vs):off+n≤cells.length∧vs=(cells.drop off).take n∧vs.length=n:=by
 unfold mO at h;cases hb:Nat.ble (off+n) cells.length with
 |false=>simp_all
 |true=>
  have:=Nat.le_of_ble_eq_true hb;grind
theorem UF {agg vs v}(h:rR agg vs=some v):(agg=some true∧v=.agg vs)∨(agg=some false∧∃c,vs=[c]∧v=.c c):=by
 unfold rR at h;grind
theorem vE2 {P M w}(ok:Ok M)(hM:M.H=w.heap){t B o cells vs off v}
  (lZ:∀j h,∃u,yX M.H B (o+j)=some u∧zZ M cells[j] u)
  (eZ:mO cells off (P.cellsOf t)=some vs) (hp:rR (eK P t) vs=some v):
  ∃rv,(loadVar t ⟨B,o+off,none⟩).run P w=.ok rv w∧zX M v rv:=by
 obtain⟨h1,h2,h3⟩:=JG eZ;have dm:∀j,j<vs.length→∃u,w.cell? ⟨B,o+off+j,none⟩=some u∧∃c,vs[j]? =some c∧zZ M c u:=by
  intro j hj;obtain⟨u,k1,k2⟩:=lZ (off+j) (by omega);refine⟨u,by rw[tR,←hM,Nat.add_assoc];exact k1,cells[off+j],?_,k2⟩;grind
 rcases UF hp with⟨dY,rfl⟩|⟨dY,c,rfl,rfl⟩
 ·obtain⟨⟨d,hd⟩,hr⟩:=tT (P:=P) w dY;obtain⟨i,hi⟩:=ON hd;have hf:∃us:List Value,us.length=vs.length∧∀j (h:j<vs.length),∃u c,us[j]? =some u∧w.cell? ⟨B,o+off+j,none⟩=some u∧vs[j]? =some c∧zZ M c u:=by
   refine⟨(List.range vs.length).map fun j=>(w.cell? ⟨B,o+off+j,none⟩).getD undef,by simp,fun j h=>?_⟩;grind
  obtain⟨us,hl,oS⟩:=hf;have mU := run_loadCells_list (P := P) w ⟨B, o + off, none⟩ us (fun j u hu=>by
   have hj:j<us.length:=by
    grind
   obtain⟨u',c,k1,k2,_⟩:=oS j (by omega);rw[hu] at k1;cases k1;rw[Addr.add_lit];exact k2)
  refine⟨.agg us.toArray,?_,?_⟩
  ·rw[hl,h3] at mU;simp[loadVar,hr,iO w hi,mU]
  ·refine⟨us.toArray,rfl,zP.of_get (by simp_all) fun j k1 k2=>?_⟩;grind
 ·obtain⟨⟨d,hd⟩,hr⟩:=tT (P:=P) w dY;obtain⟨u,k1,c',k2,k3⟩:=dm 0 (by simp);simp at k2;subst k2;refine⟨u,?_,k3⟩;simp at k1;simp[loadVar,hr,k1]
theorem OQ {P M w}(ok:Ok M)(hM:M.H=w.heap){t B o cells vs off v}
  (lZ:∀j h,∃u,yX M.H B (o+j)=some u∧zZ M cells[j] u)
  (eZ:mO cells off (P.cellsOf t)=some vs) (hp:rR (eK P t) vs=some v):
  qK P (loadVar t ⟨B,o+off,none⟩) M w v []:=by
 obtain⟨rv,h1,h2⟩:=vE2 (w:=w) ok hM lZ eZ hp;exact .pure ok hM h1 h2
theorem kG P w a:(Instr.sureAddr (.pointer (some a))).run P w=.ok a w:=rfl
theorem vIw {M own cells C}(h:vA M (.box own cells) C):∃B,C.blk=some B∧∀j h,∃u,yX M.H B (0+j)=some u∧zZ M cells[j] u:=by
 obtain⟨B,vals,e,h1,h2,h3,h4,h5⟩:=h;refine⟨B,h1,fun j hj=>?_⟩;have hl:=h4.length;have mV:j<vals.size:=by simp_all
 refine⟨vals[j],?_,?_⟩
 ·simp[yX,h3]
 ·have:=h4.get j hj (by omega);simp_all
theorem UG {M cells C}(h:vA M (.robox cells) C):∃B,C.blk=some B∧∀j h,∃u,yX M.H B (0+j)=some u∧zZ M cells[j] u:=by
 obtain⟨B,vals,e,h1,h2,h3,h4,h5⟩:=h;refine⟨B,h1,fun j hj=>?_⟩;have hl:=h4.length;have mV:j<vals.size:=by simp_all
 refine⟨vals[j],?_,?_⟩
 ·simp[yX,h3]
 ·have:=h4.get j hj (by omega);simp_all
theorem vPs {M own t xs C}(h:vA M (.arr own t xs) C){i}(hi:i<xs.length):∃B,C.blk=some B∧
  ∀j h,∃u,yX M.H B (i*C.sz+j)=some u∧zZ M (cellsOf true t (xs.getD i t.dflt))[j] u:=by
 obtain⟨h1,h2,h3,h4⟩:=h;cases hB:C.blk with
 |none=>simp_all
 |some B=>
  rw[hB] at h4;obtain⟨vals,e,h5,h6,h7,h8⟩:=h4;refine⟨B,rfl,fun j hj=>?_⟩;have:=OP M true t xs[i] _ (h8 i hi) j (by simp_all);obtain⟨v,k1,k2⟩:=this;refine⟨v,?_,?_⟩
  ·rw[h2];simp[yX,h5];exact k1
  simp_all
theorem OR {P t cells off v u}(h:yO (Jw P t cells off) v u):
  ∃vs,mO cells off (P.cellsOf t)=some vs∧rR (eK P t) vs=some v∧u=[]:=by
 obtain⟨h',rfl⟩:=Uz h;rw[Option.bind_eq_some_iff] at h';simp_all
theorem mR.one {H rb n v}(h:mR H rb n v):v.one1=true:=by
 cases rb with
 |none=>obtain⟨rfl,_⟩:=h;rfl
 |some R=>obtain⟨a,c,rfl,_⟩:=h;rfl
theorem D7 {M ver xs C}(h:vA M (.mat ver xs) C){i} hi:∃B rb v,C.blk=some B∧C.ver=ver∧
  C.rows[i]? =some (rb,xs[i].length)∧yX M.H B i=some v∧mR M.H rb xs[i].length v∧(∀R,rb=some R→∀j (h':j<xs[i].length),yX M.H R j=some (.int .i64 xs[i][j])):=by
 obtain⟨q1,q2,q3,q4,q5,q6⟩:=h;cases hB:C.blk with
 |none=>grind
 |some B=>
  rw[hB] at q6;obtain⟨vals,e,q7,q8,q9⟩:=q6;obtain⟨rb,v,k1,k2,k3,k4⟩:=q9 i hi;refine⟨B,rb,v,rfl,q1,k1,by simp[yX,q7];exact k2,k3,fun R hR j hj=>?_⟩;obtain⟨rv,er,k5,k6⟩:=k4 R hR;simp[yX];simp_all
theorem vZ2 {P M w}(ok:Ok M)(hM:M.H=w.heap){t a v u ra}(ha:zX M a ra)
  (h:yO (DI P M.h t a) v u):qK P (Instr.loadAt t ra) M w v u:=by
 unfold DI at h;split at h
 ·split at h
  ·rename_i own cells an;obtain⟨vs,h1,h2,rfl⟩:=OR h;obtain⟨C,B,hC,hB,rfl⟩:=ha;obtain⟨C',aF,hO⟩:=ok.obj _ _ an;rw[hC] at aF;cases aF;obtain⟨B',fB,aH⟩:=vIw hO;rw[hB] at fB;cases fB;have:=OQ (P:=P) ok hM (t:=t) (o:=0) aH h1 h2
   simpa[Instr.loadAt,qK,kG] using this
  ·rename_i cells an;obtain⟨vs,h1,h2,rfl⟩:=OR h;obtain⟨C,B,hC,hB,rfl⟩:=ha;obtain⟨C',aF,hO⟩:=ok.obj _ _ an;rw[hC] at aF;cases aF;obtain⟨B',fB,aH⟩:=UG hO;rw[hB] at fB;cases fB;have:=OQ (P:=P) ok hM (t:=t) (o:=0) aH h1 h2
   simpa[Instr.loadAt,qK,kG] using this
  ·exact h.elim
 ·rename_i sh ty x off;obtain⟨vs,h1,h2,rfl⟩:=OR h;obtain⟨B,o,rfl,hB,hE⟩:=ha;have:=OQ (P:=P) ok hM (t:=t) (B:=B) (o:=o) (fun j hj=>OP M sh ty x _ hE j hj) h1 h2
  simpa[Instr.loadAt,qK,kG] using this
 ·rename_i id i off;split at h
  ·rename_i own ty xs an;obtain⟨vs,h1,h2,rfl⟩:=OR h;obtain⟨C,B,hC,hB,hi,rfl⟩:=ha;obtain⟨C',aF,hO⟩:=ok.obj _ _ an;rw[hC] at aF;cases aF;obtain⟨B',fB,aH⟩:=vPs hO (i:=i) (by rw[←hO.1];exact hi);rw[hB] at fB;cases fB;have:=OQ (P:=P) ok hM (t:=t) aH h1 h2
   simpa[Instr.loadAt,qK,kG] using this
  ·exact h.elim
 ·rename_i id i;split at h
  ·rename_i ver xs an;split at h
   ·rename_i dY;obtain⟨rfl,rfl⟩:=wO h;obtain⟨C,B,hC,hB,hi,rfl⟩:=ha;obtain⟨C',aF,hO⟩:=ok.obj _ _ an;rw[hC] at aF;cases aF;obtain⟨B',rb,x,k0,kv,k1,k2,k3,k4⟩:=D7 hO (i:=i) (by rw[←hO.2.1];exact hi);rw[hB] at k0;cases k0;obtain⟨_,hr⟩:=tT (P:=P) w dY;have yX:w.cell? ⟨B,i,none⟩=some x:=by rw[tR,←hM];exact k2
    exact qK.pure ok hM (rv:=x) (by simp[Instr.loadAt,kG,loadVar,hr,yX]) ⟨C,hC,k3.one,by omega,by grind⟩
   ·exact h.elim
  ·exact h.elim
 ·rename_i id i j ver;split at h
  ·rename_i v' xs an;cases hv:Nat.beq v' ver with
   |false=>rw[hv] at h;exact h.elim
   |true=>
    rw[hv] at h;have hv:=Nat.eq_of_beq_eq_true hv;subst hv;split at h
    ·rename_i dY;obtain⟨rfl,rfl⟩:=wO h;obtain⟨C,hC,h1,hle,hm⟩:=ha;obtain⟨C',aF,hO⟩:=ok.obj _ _ an;rw[hC] at aF;cases aF;obtain⟨R,rl,k1,k2,rfl⟩:=hm hO.1;have hi:i<xs.length:=by
      rw[←hO.2.2.2.1];grind
     obtain⟨B',rb,x,q0,qv,q1,q2,q3,q4⟩:=D7 hO hi;rw[k1] at q1;cases q1;obtain⟨_,hr⟩:=tT (P:=P) w dY;have yX:w.cell? ⟨R,j,none⟩=some (.int .i64 xs[i][j]):=by rw[tR,←hM];exact by grind
     refine qK.pure ok hM (rv:=.int .i64 xs[i][j]) (by simp[Instr.loadAt,kG,loadVar,hr,yX]) ?_;show _=_;simp[List.getD,hi,k2]
    ·exact h.elim
  ·exact h.elim
 ·exact h.elim
theorem lz h:∀u v,qJ h (u++v)=qJ (qJ h u) v
 |[],_=>rfl
 |(id,o)::u,v=>lz (yM h id o) u v
theorem UH h id o:qJ h [(id,o)]=yM h id o:=rfl
theorem D8 {h id o}(e:h id=some o):yM h id o=h:=by
 funext n;by_cases hn:n=id
 ·subst hn;rw[yV];simp_all
 ·rw[yY _ _ hn]
theorem UI:∀vs cells off out,AR cells off vs=some out→
  (vs=[]∨off+vs.length≤cells.length)∧out=cells.take off++vs++cells.drop (off+vs.length)
 |[],cells,off,out,h=>by
  simp[AR] at h;simp_all
 |v::vs,cells,off,out,h=>by
  unfold AR at h;cases hb:Nat.blt off cells.length with
  |false=>simp_all
  |true=>
   rw[hb] at h;have bd:off<cells.length:=Nat.le_of_ble_eq_true hb;obtain⟨h1,h2⟩:=UI vs (cells.set off v) (off+1) out h;refine⟨by grind,?_⟩;have e1:(cells.set off v).take (off+1)=cells.take off++[v]:=by
    rw[List.take_succ_eq_append_getElem (by simp_all),List.take_set_of_le (by simp)];simp
   have e2:(cells.set off v).drop (off+1+vs.length)=cells.drop (off+(v::vs).length):=by
    rw[List.drop_set_of_lt (by omega)];grind
   simp_all
theorem OT {M v rv vs}(h:oN v=some vs)(hv:zX M v rv):zP (zZ M) vs rv.cells.toList:=by
 unfold oN at h;split at h
 ·cases h;have h1:=zZ.one hv;have:rv.cells=#[rv]:=by cases rv<;>first|rfl|cases h1
  rw[this];exact⟨hv,trivial⟩
 ·cases h;obtain⟨us,rfl,h⟩:=hv;exact h
 ·cases h
theorem UJ {M}:∀{vs us},zP (zZ M) vs us→∀u∈us,u.one1=true
 |[],[],_,_,h=>by cases h
 |_::_,u::us,hh,x,h=>by
  cases h with
  |head=>exact hh.1.one
  |tail _ h=>exact UJ hh.2 x h
def mW (P:Program)(s:Sem Unit)(M:zL)(w:World)(u:vG):Prop:=
 ∃w' M',s.run P w=.ok () w'∧w'.os=w.os∧w'.tape=w.tape∧w'.output=w.output∧M'.H=w'.heap∧M'.h=qJ M.h u∧Ok M'∧yR M M'
def yZ (vals:Array Value)(off:Nat)(us:List Value):Array Value:=(vals.toList.take off++us++vals.toList.drop (off+us.length)).toArray
theorem gQ {vals off us}(h:off+us.length≤vals.size):(yZ vals off us).size=vals.size:=by
 simp[yZ];omega
theorem jY {vals off us}(h:off+us.length≤vals.size) j:
  (yZ vals off us)[j]? =if j<off then vals[j]? else if j<off+us.length then us[j-off]? else vals[j]? :=by
 simp[yZ];grind
theorem oT {w:World}{B vals new e}(h:w.heap[B]? =some (.cells vals e (0,0)))(hs:new.size=vals.size):
  (w.setRow B new).heap.size=w.heap.size∧(w.setRow B new).heap[B]? =some (.cells new e (0,0))∧(∀b,b≠B→(w.setRow B new).heap[b]? =w.heap[b]?)∧
  (∀b,qX (w.setRow B new).heap b=qX w.heap b):=by
 have h1:=setRow_heap w B vals new e (0,0) h;have h2:∀b,b≠B→(w.setRow B new).heap[b]? =w.heap[b]? :=fun b hb=>setRow_other w B b new hb
 refine⟨by simp,h1,h2,fun b=>?_⟩;by_cases hb:b=B
 ·subst hb;simp[qX,h1,h];exact hs
 ·exact D4 (h2 b hb)
theorem UK {P w t B off vals e rv}(h:w.heap[B]? =some (.cells vals e (0,0)))
  (hn:rv.cells.size=P.cellsOf t) (h0:0<P.cellsOf t) (aM:off+rv.cells.size≤vals.size) (h1:∀u∈rv.cells.toList,u.one1=true):
  (storeVar t ⟨B,off,none⟩ rv).run P w=.ok () (w.setRow B (yZ vals off rv.cells.toList)):=by
 obtain⟨i,hi⟩:=oQ h0;have j7:=run_storeCells_at (P:=P) B off e rv.cells.toList 0 vals w h (by omega) (fun v hv=>A3 (h1 v hv));have:¬rv.cells.size≠P.cellsOf t:=by omega
 simp only[storeVar,Sem.run_bind,iO w hi,Result.andThen_ok,this];exact j7
theorem UL {M M'}(x:yT M M'){cells vs vals us off}(h:zP (zZ M) cells vals.toList)(hv:zP (zZ M) vs us)
  (aM:off+us.length≤vals.size):zP (zZ M') (cells.take off++vs++cells.drop (off+vs.length)) (yZ vals off us).toList:=by
 have hl:=hv.length;rw[hl];exact((h.take off).append hv|>.append (h.drop _)).mono fun _ _ hc=>hc.ext x
def jG (h0 h:Hp):Prop:=∀id,h id=h0 id∨(∃own t xs,h0 id=some (.arr own t xs)∧h id=some (.arr false t xs))∨
 (∃ver xs,h0 id=some (.mat ver xs)∧h id=some (.arr false (.sl (.int .i64)) xs))
theorem jG.refl h:jG h h:=fun _=>.inl rfl
theorem D9 {α}{xs:List α}{lo n}(h:lo+n≤xs.length):(qO xs lo n).length=n:=by
 simp[qO];omega
theorem OU {α}{xs:List α}{lo n i} h:∃h':lo+i<xs.length,(qO xs lo n)[i]=xs[lo+i]:=by
 have:lo+i<xs.length:=by simp[qO] at h;omega
 exact⟨this,by simp[qO]⟩
theorem yWd {H G C t xs lo n v}(dH:C.sz=t.size)(hn:lo+n≤xs.length)(h:jE H C lo n v)
  (hx:match C.blk with
   |none=>xs=[]
   |some B=>G B∧∃vals e,H[B]? =some (.cells vals e (0,0))∧∀i h,qF H G t xs[i] (fun j=>vals[i*t.size+j]?)):
  qF H G (.sl t) (qO xs lo n) (fun _=>some v):=by
 obtain⟨A,c,rfl,h⟩:=h;cases hB:C.blk with
 |none=>
  rw[hB] at h hx;obtain⟨rfl,rfl,rfl⟩:=h;exact⟨none,0,0,rfl,by rfl,by simp,.inl ⟨by rfl,by simp⟩⟩
 |some B=>
  rw[hB] at h hx;obtain⟨hc,a,rfl,ha,aM⟩:=h;obtain⟨hG,vals,e,hv,hE⟩:=hx;have hl:=D9 hn;refine⟨_,n,c,rfl,hl.symm,hc,?_⟩;by_cases h0:n=0
  ·simp_all
  ·refine .inr ⟨B,a,rfl,hG,fun i hi=>?_⟩;obtain⟨bI,e1⟩:=OU hi;have rZ:a=lo*C.sz:=by omega
   have e2:(fun j=>yX H B (a+i*t.size+j))=fun j=>vals[(lo+i)*t.size+j]? :=by
    rw[rZ,dH,←Nat.add_mul];simp[yX,hv]
   simp_all
theorem yOb {α}(xs:List α):qO xs 0 xs.length=xs:=by simp[qO]
theorem A4 {M t xs C id r v}(hC:M.κ id=some C)(hO:vA M (.arr false t xs) C)(h:zZ M (.osl id r) v):
  qF M.H M.G (.sl t) (j6 xs r) (fun _=>some v):=by
 obtain⟨h1,h2,h3,h4⟩:=hO;obtain⟨C',aF,h⟩:=h;rw[hC] at aF;cases aF;have hx:match C.blk with
   |none=>xs=[]
   |some B=>M.G B∧∃vals e,M.H[B]? =some (.cells vals e (0,0))∧∀i (h:i<xs.length),qF M.H M.G t xs[i] (fun j=>vals[i*t.size+j]?):=by
  grind
 cases r with
 |none=>
  have:=yWd (G:=M.G) h2 (lo:=0) (n:=C.len) (by omega) h hx;rw[h1,yOb] at this;exact this
 |some p=>
  obtain⟨h5,h6,_⟩:=h;exact yWd (G:=M.G) h2 (by omega) h6 hx
theorem yF6 {M}(ok:Ok M){id t xs}(an:M.h id=some (.arr true t xs)):
  ∃M',M'.H=M.H∧M'.h=yM M.h id (.arr false t xs)∧Ok M'∧yR M M'∧M'.κ=M.κ:=by
 obtain⟨C,hC,hO⟩:=ok.obj id _ an;have tU:vA (M.freeze id (.arr false t xs) C) (.arr false t xs) C:=by
  have x:yT M (M.freeze id (.arr false t xs) C):=⟨fun _ C h=>⟨C,h,C.le_refl⟩,fun _ h=>.inl h,fun _ h=>.inl h,fun _ _=>rfl,fun _ _=>rfl,fun _ _=>rfl⟩;obtain⟨h1,h2,h3,h4⟩:=hO.ext x fun _ _ _=>rfl
  refine⟨h1,h2,by simp,?_⟩;cases hB:C.blk with
  |none=>simp_all
  |some B=>
   rw[hB] at h4;obtain⟨vals,e,h5,h6,h7,h8⟩:=h4;exact⟨vals,e,h5,fun _=>.inr (by simp[qE.fp,hB]),h7,h8⟩
 have:=zL.freeze_ok ok an rfl hC rfl tU;exact⟨M.freeze id _ C,rfl,rfl,this.1,this.2,rfl⟩
theorem vD8 {M}(ok:Ok M){id t xs}(an:M.h id=some (.arr true t xs)):
  ∃M',M'.H=M.H∧M'.h=yM M.h id (.arr false t xs)∧Ok M'∧yR M M':=by
 obtain⟨M',h1,h2,h3,h4,_⟩:=yF6 ok an;grind
theorem ySo {M}(ok:Ok M){id ver xs}(an:M.h id=some (.mat ver xs)):
  ∃M',M'.H=M.H∧M'.h=yM M.h id (.arr false (.sl (.int .i64)) xs)∧Ok M'∧yR M M'∧M'.κ=M.κ:=by
 obtain⟨C,hC,hO⟩:=ok.obj id _ an;have tU:vA (M.freeze id (.arr false (.sl (.int .i64)) xs) C) (.arr false (.sl (.int .i64)) xs) C:=by
  obtain⟨h1,h2,h3,h4,h5,h6⟩:=hO;refine⟨h2,h3,by simp,?_⟩;cases hB:C.blk with
  |none=>rw[hB] at h6;exact h6
  |some B=>
   rw[hB] at h6;obtain⟨vals,e,h7,h8,h9⟩:=h6;refine⟨vals,e,h7,fun _=>.inr (by simp[qE.fp,hB]),by simpa[Ty.size] using h8,fun i hi=>?_⟩;obtain⟨rb,v,k1,k2,k3,k4⟩:=h9 i hi;simp only[qF,Ty.size,Nat.mul_one,Nat.add_zero];cases rb with
   |none=>
    obtain⟨rfl,hl⟩:=k3;grind
   |some R=>
    obtain⟨a,c,rfl,hc,ha,hs⟩:=k3;obtain⟨rv,er,k5,k6⟩:=k4 R rfl;by_cases cO:xs[i]=[]
    ·grind
    have nM:a=0:=by
     have:0<xs[i].length:=by grind
     omega
    subst nM;refine⟨_,_,c,k2,rfl,hc,.inr ⟨R,0,rfl,.inr ?_,fun j hj=>?_⟩⟩
    ·simp only[qE.fp,List.mem_append];grind
    ·have e1:(M.freeze id (Obj.arr false (.sl (.int .i64)) xs) C).H=M.H:=rfl;simp[e1,yX,k5,Nat.zero_add];exact k6 j hj
 have:=zL.freeze_ok ok an rfl hC rfl tU;exact⟨M.freeze id _ C,rfl,rfl,this.1,this.2,rfl⟩
theorem yXi {M}(ok:Ok M){id ver xs}(an:M.h id=some (.mat ver xs)):
  ∃M',M'.H=M.H∧M'.h=yM M.h id (.arr false (.sl (.int .i64)) xs)∧Ok M'∧yR M M':=by
 obtain⟨M',h1,h2,h3,h4,_⟩:=ySo ok an;grind
theorem JH {M}(ok:Ok M){h0}(hf:jG h0 M.h){c c' v u}(hc:zZ M c v)(h:oP h0 c=some (c',u)):
  ∃M',M'.H=M.H∧M'.h=qJ M.h u∧Ok M'∧yR M M'∧zZ M' c' v∧jG h0 M'.h∧(∀p∈u,p.2.owned=false):=by
 have ahy : c' = c → u = [] → _ := fun e1 e2 => (⟨M,rfl,by rw[e2];rfl,ok,yR.refl M,by simp_all,hf,by simp[e2]⟩:
  ∃M',M'.H=M.H∧M'.h=qJ M.h u∧Ok M'∧yR M M'∧zZ M' c' v∧jG h0 M'.h∧(∀p∈u,p.2.owned=false))
 cases c with
 |osl id r=>
  have key:∀(t:Ty) (xs:List t.den),(∀M',Ok M'→M'.h id=some (.arr false t xs)→zZ M' (.osl id r) v→zZ M' (.fsl true t (j6 xs r)) v):=by
   intro t xs M' gT pO l9;obtain⟨C,hC,hO⟩:=gT.obj id _ pO;exact A4 hC hO l9
  unfold oP at h;simp only at h;split at h
  ·rename_i own t xs ma;cases h;rcases hf id with e|⟨o2,t2,UM,e1,e2⟩|⟨ver,UM,e1,e2⟩
   ·rw[ma] at e;cases own with
    |true=>
     obtain⟨M',h1,h2,gT,bJ⟩:=vD8 ok e;refine⟨M',h1,h2,gT,bJ,key t xs M' gT (by rw[h2];exact yV _ _ _) (hc.ext bJ.ext),fun n=>?_,by simp[Obj.owned]⟩;by_cases hn:n=id
     ·subst hn;exact .inr (.inl ⟨true,t,xs,ma,by rw[h2];exact yV _ _ _⟩)
     ·rw[h2,yY _ _ hn];exact hf n
    |false=>exact⟨M,rfl,(D8 e).symm,ok,yR.refl M,by grind,hf,by simp[Obj.owned]⟩
   ·rw[ma] at e1;cases e1;exact⟨M,rfl,(D8 e2).symm,ok,yR.refl M,by grind,hf,by simp[Obj.owned]⟩
   simp_all
  ·rename_i ver xs ma;split at h
   ·cases h;rcases hf id with e|⟨o2,t2,UM,e1,e2⟩|⟨ahz,UM,e1,e2⟩
    ·rw[ma] at e;obtain⟨M',h1,h2,gT,bJ⟩:=yXi ok e;refine⟨M',h1,h2,gT,bJ,key (.sl (.int .i64)) xs M' gT (by rw[h2];exact yV _ _ _) (hc.ext bJ.ext),fun n=>?_,by simp[Obj.owned]⟩;by_cases hn:n=id
     ·subst hn;exact .inr (.inr ⟨ver,xs,ma,by rw[h2];exact yV _ _ _⟩)
     ·rw[h2,yY _ _ hn];exact hf n
    ·simp_all
    ·rw[ma] at e1;cases e1;exact⟨M,rfl,(D8 e2).symm,ok,yR.refl M,key (.sl (.int .i64)) xs M ok e2 hc,hf,by simp[Obj.owned]⟩
   ·cases h
  ·cases h
 |mrow _ _ _=>cases h
 |_=>cases h;simp_all
theorem UN {h0}:∀{cs aS vs u M},Ok M→jG h0 M.h→zP (zZ M) cs vs→nI h0 cs=some (aS,u)→
  ∃M',M'.H=M.H∧M'.h=qJ M.h u∧Ok M'∧yR M M'∧zP (zZ M') aS vs∧jG h0 M'.h∧(∀p∈u,p.2.owned=false)
 |[],aS,[],u,M,ok,hf,_,h=>by cases h;exact⟨M,rfl,rfl,ok,yR.refl M,trivial,hf,by simp⟩
 |c::cs,aS,v::vs,u,M,ok,hf,hc,h=>by
  unfold nI at h;split at h
  ·rename_i c1 u1 mX sb e1 e2;cases h;obtain⟨M1,a1,a2,a3,a4,a5,a6,a7⟩:=JH ok hf hc.1 e1;obtain⟨M2,b1,b2,b3,b4,b5,b6,b7⟩:=UN a3 a6 (hc.2.mono fun _ _ k=>k.ext a4.ext) e2;refine⟨M2,b1.trans a1,by rw[b2,a2,lz],b3,a4.trans b4,⟨a5.ext b4.ext,b5⟩,b6,fun p hp=>?_⟩;grind
  ·cases h
theorem lA {a b xs ys}(h:im a b xs=some ys):∃e:a=b,e▸xs=ys:=by
 unfold im at h;grind
theorem UO {a b}(h:Nat.blt a b=true):a<b:=Nat.le_of_ble_eq_true h
theorem vVd {a b}(h:Nat.blt a b=false):¬a<b:=fun hh=>by
 have:Nat.blt a b=true:=Nat.ble_eq_true_of_le hh;simp_all
theorem vC2 {k off c n}(h:T6 k off c=some n):off=0∧c=.int k n:=by
 unfold T6 at h;split at h
 ·rename_i j m;cases hb:gq j k with
  |false=>simp_all
  |true=>
   have:=tI hb;simp_all
 ·cases h
theorem yNl {off c n}(h:T7 off c=some n):off=0∧c=.bool n:=by
 unfold T7 at h;grind
theorem yL3 {t off c xs}(h:T8 t off c=some xs):off=0∧(c=.fsl true t xs∨(c=.nsl∧xs=[])):=by
 unfold T8 at h;split at h
 ·obtain⟨e,h⟩:=lA h;grind
 all_goals simp_all
theorem yRe {a b p q off c}(h:tJ (.pair a b) p off c=some q):
  (off<a.size∧tJ a p.1 off c=some q.1∧q.2=p.2)∨(¬off<a.size∧tJ b p.2 (off-a.size) c=some q.2∧q.1=p.1):=by
 simp[tJ] at h;cases hb:Nat.blt off a.size with
 |true=>
  rw[hb] at h;split at h
  ·cases h;simp_all
  ·cases h
 |false=>
  rw[hb] at h;simp  at h;split at h
  ·rename_i x hx;cases h;exact .inr ⟨vVd hb,hx,rfl⟩
  ·cases h
theorem vKf:∀{t x y off c},tJ t x off c=some y→off<t.size
 |.int k,x,y,off,c,h=>by rw[(vC2 h).1];simp[Ty.size]
 |.bool,x,y,off,c,h=>by rw[(yNl h).1];simp[Ty.size]
 |.sl t,x,y,off,c,h=>by rw[(yL3 h).1];simp[Ty.size]
 |.pair a b,x,y,off,c,h=>by
  simp[Ty.size];rcases yRe h with⟨h1,_⟩|⟨h1,h2,_⟩
  ·omega
  ·have:=vKf h2;omega
theorem UP {M}:∀t x y off c u rd gv,qF M.H M.G t x rd→tJ t x off c=some y→zZ M c u→
  gv off=some u→(∀j,j≠off→j<t.size→gv j=rd j)→qF M.H M.G t y gv
 |.int k,x,y,off,c,u,rd,gv,hE,h,hc,hr,lZ=>by
  obtain⟨rfl,rfl⟩:=vC2 h;simp[qF];rw[hr,show u=_ from hc]
 |.bool,x,y,off,c,u,rd,gv,hE,h,hc,hr,lZ=>by
  obtain⟨rfl,rfl⟩:=yNl h;simp[qF];rw[hr,show u=_ from hc]
 |.sl t,x,y,off,c,u,rd,gv,hE,h,hc,hr,lZ=>by
  obtain⟨rfl,rfl|⟨rfl,rfl⟩⟩:=yL3 h
  ·have l9:qF M.H M.G (.sl t) y (fun _=>some u):=hc;refine vD (by simp) (by simp) _ _ _ _ (fun j hj=>?_) l9;simp[Ty.size] at hj;simp_all
  ·exact⟨none,0,0,by rw[hr,show u=_ from hc],rfl,by simp,by simp⟩
 |.pair a b,x,y,off,c,u,rd,gv,hE,h,hc,hr,lZ=>by
  simp[Ty.size] at lZ;rcases yRe h with⟨h1,h2,h3⟩|⟨h1,h2,h3⟩
  ·refine⟨UP a _ _ off c u rd gv hE.1 h2 hc hr (by grind),?_⟩;rw[h3];exact vD (by simp) (by simp) _ _ _ _ (by grind) hE.2
  ·refine⟨?_,UP b _ _ (off-a.size) c u _ _ hE.2 h2 hc (by simp_all) (by grind)⟩;rw[h3];exact vD (by simp) (by simp) _ _ _ _ (by grind) hE.1
theorem vCj {t}:∀{vs x y off},tK t x off vs=some y→vs=[]∨off+vs.length≤t.size
 |[],_,_,_,_=>.inl rfl
 |v::vs,x,y,off,h=>by
  unfold tK at h;split at h
  ·rename_i z hz;have h1:=vKf hz;rcases vCj h with rfl|h2
   all_goals grind
  ·cases h
theorem UQ {M} t:∀vs us x y off rd gv,qF M.H M.G t x rd→tK t x off vs=some y→zP (zZ M) vs us→
  (∀i,i<us.length→gv (off+i)=us[i]?)→(∀j,(j<off∨off+us.length≤j)→j<t.size→gv j=rd j)→qF M.H M.G t y gv
 |[],[],x,y,off,rd,gv,hE,h,_,_,lZ=>by
  cases h;exact vD (by simp) (by simp) _ _ _ _ (by grind) hE
 |v::vs,u::us,x,y,off,rd,gv,hE,h,hc,hr,lZ=>by
  unfold tK at h;split at h
  ·rename_i z hz;have h1:=UP t x z off v u rd (fun j=>if j=off then some u else rd j) hE hz hc.1 (by simp) (by grind);refine UQ t vs us z y (off+1) _ gv h1 h hc.2 (fun i hi=>?_) (fun j hj xf=>?_)
   ·have:=hr (i+1) (by simp;omega);grind
   ·by_cases e:j=off
    ·have:=hr 0 (by simp);simp_all
    grind
  ·cases h
theorem yXu {i k sz j:Nat}(h:i≠k)(hj:j<sz):k*sz+j<i*sz∨i*sz+sz≤k*sz+j:=by
 rcases Nat.lt_or_gt_of_ne h with h|h
 ·have:=Nat.mul_le_mul_right sz (show i+1≤k by omega);grind
 ·have:=Nat.mul_le_mul_right sz (show k+1≤i by omega);grind
theorem vLg {C:qE}(hn:C.fp.Nodup){i k:Nat}{R R':Nat}{a b:Nat}(hi:C.rows[i]? =some (some R,a))(hk:C.rows[k]? =some (some R',b))(h:i≠k):R≠R':=by
 intro e;subst e;have Ea:(C.rows.filterMap (·.1)).Nodup:=(List.nodup_append.1 hn).2.1;clear hn;have gen:∀(l:List (Option Nat×Nat)) (i k:Nat),i<k→l[i]? =some (some R,a)∨l[i]? =some (some R,b)→l[k]? =some (some R,b)∨l[k]? =some (some R,a)→(l.filterMap (·.1)).Nodup→False:=by
  intro l
  induction l with
  |nil=>intro i k _ h1 _ _;simp at h1
  |cons x l ih=>
   intro i k UR h1 h2 hn;obtain⟨k,rfl⟩:∃m,k=m+1:=⟨k-1,by omega⟩;have dp:R∈l.filterMap (·.1):=by
    simp only[List.getElem?_cons_succ] at h2;rcases h2 with h2|h2<;>exact List.mem_filterMap.2 ⟨_,List.mem_of_getElem? h2,rfl⟩
   cases i with
   |zero=>
    grind
   |succ i=>
    grind
 grind
theorem US {C:qE}(hn:C.fp.Nodup){k R B b:Nat}(hk:C.rows[k]? =some (some R,b))(hB:C.blk=some B):R≠B:=by
 intro e;subst e;have:=(List.nodup_append.1 hn).2.2 R (by simp[hB]) R (by grind);omega
theorem fQ {C:qE}{B}(h:C.blk=some B):B∈C.fp:=by simp[qE.fp,h]
theorem vTb {C:qE}{k R b:Nat}(h:C.rows[k]? =some (some R,b)):R∈C.fp:=by
 simp[qE.fp];grind
theorem UT {P M w}(ok:Ok M)(hM:M.H=w.heap){t id o o' C B off vals e rv}
  (an:M.h id=some o) (aN:o.owned=true) (hC:M.κ id=some C) (hB:B∈C.fp) (hb:M.H[B]? =some (.cells vals e (0,0)))
  (hn:rv.cells.size=P.cellsOf t) (h0:0<P.cellsOf t) (aM:off+rv.cells.size≤vals.size) (h1:∀u∈rv.cells.toList,u.one1=true)
  (hO:∀M',M'.κ=κset M.κ id C→M'.F=M.F→M'.G=M.G→yT M M'→M'.H[B]? =some (.cells (yZ vals off rv.cells.toList) e (0,0))→(∀b,b≠B→M'.H[b]? =M.H[b]?)→vA M' o' C):
  mW P (storeVar t ⟨B,off,none⟩ rv) M w [(id,o')]:=by
 have bg:w.heap[B]? =some (.cells vals e (0,0)):=by simp_all
 have hr:=UK (P:=P) bg hn h0 aM h1;obtain⟨f1,f2,f3,f4⟩:=oT bg (new:=yZ vals off rv.cells.toList) (gQ (by omega));have hH:∀b,b∉C.fp→(w.setRow B (yZ vals off rv.cells.toList)).heap[b]? =M.H[b]? :=by grind
 have cR:∀b,b<M.H.size→qX (w.setRow B (yZ vals off rv.cells.toList)).heap b=qX M.H b:=by grind
 have x:=zL.write_ext ok an aN hC C.le_refl hH cR o';have:=zL.write_ok ok an aN hC C.le_refl (by simp) (by rw[hM];exact f1) hH cR
  (hO (M.write id o' C _) rfl rfl rfl x f2 (fun b tV=>by rw[hM];exact f3 b tV))
 exact⟨_,_,hr,rfl,rfl,rfl,rfl,rfl,this.1,this.2⟩
theorem UU {P M w}(ok:Ok M)(hM:M.H=w.heap){t id off cells bF vs B C rv}
  (an:M.h id=some (.box true cells)) (hC:M.κ id=some C) (hB:C.blk=some B) (dI:zP (zZ M) vs rv.cells.toList) (hn:vs.length=P.cellsOf t) (h0:0<vs.length)
  (hp:AR cells off vs=some bF):mW P (storeVar t ⟨B,off,none⟩ rv) M w [(id,.box true bF)]:=by
 obtain⟨C',aF,hO⟩:=ok.obj id _ an;rw[hC] at aF;cases aF;obtain⟨B',vals,e,k1,k2,k3,k4,k5⟩:=hO;rw[hB] at k1;cases k1;obtain⟨p1,p2⟩:=UI vs cells off bF hp;have hl:vs.length=rv.cells.size:=by simpa using dI.length
 have aM:off+rv.cells.size≤vals.size:=by
  have:=k4.length;grind
 refine UT ok hM an rfl hC (fQ hB) k3 (by omega) (by omega) aM (UJ dI) fun M' _ _ hG x h1 h2=>?_
 refine⟨B,_,e,hB,k2,h1,?_,by simp⟩;rw[p2];exact UL x k4 dI (by omega)
theorem vOr {P M w}(ok:Ok M)(hM:M.H=w.heap){t id i off ty xs x vs B C rv}
  (an:M.h id=some (.arr true ty xs)) (hC:M.κ id=some C) (hB:C.blk=some B) (hi:i<C.len) (dI:zP (zZ M) vs rv.cells.toList) (hn:vs.length=P.cellsOf t) (h0:0<vs.length)
  (hp:tK ty (xs.getD i ty.dflt) off vs=some x):mW P (storeVar t ⟨B,i*C.sz+off,none⟩ rv) M w [(id,.arr true ty (xs.set i x))]:=by
 obtain⟨C',aF,hO⟩:=ok.obj id _ an;rw[hC] at aF;cases aF;obtain⟨k1,k2,k3,k4⟩:=hO;rw[hB] at k4;obtain⟨vals,e,k5,k6,k7,k8⟩:=k4;have hl:vs.length=rv.cells.size:=by simpa using dI.length
 have ahA:off+vs.length≤ty.size:=by
  rcases vCj hp with rfl|h
  ·simp at h0
  ·exact h
 have JI:i<xs.length:=by omega
 have e1:xs.getD i ty.dflt=xs[i]:=by simp[List.getD,JI]
 have aT:=Nat.mul_le_mul_right ty.size (show i+1≤xs.length by omega);rw[Nat.add_mul] at aT;have aM:i*C.sz+off+rv.cells.size≤vals.size:=by rw[k2];omega
 refine UT ok hM an rfl hC (fQ hB) k5 (by omega) (by omega) aM (UJ dI) fun M' _ _ hG xt h1 h2=>?_
 refine⟨by simp_all,k2,k3,?_⟩;rw[hB];refine⟨_,e,h1,by simp,by rw[List.length_set,gQ (by simpa using aM)];exact k7,fun k hk=>?_⟩;rw[List.length_set] at hk;have OV:=vD (F:=M.G) (F':=M'.G) xt.G xt.sameG ty _ _ _ (fun _ _=>rfl) (k8 k hk);by_cases e2:k=i
 ·subst e2;simp;refine UQ ty vs rv.cells.toList xs[k] x off _ _ OV (by rw[←e1];exact hp) (dI.mono fun _ _ h=>h.ext xt) (fun j hj=>?_) (fun j hj xf=>?_)
  ·rw[jY (by simpa using aM),if_neg (by rw[k2];omega),if_pos (by grind),k2]
   congr 1;omega
  ·rw[jY (by simpa using aM)];grind
 ·rw[List.getElem_set_ne (by grind)];refine vD (by simp) (by simp) ty _ _ _ (fun j hj=>?_) OV;rw[jY (by simpa using aM)];rw[k2];rcases yXu (Ne.symm e2) hj with h|h
  all_goals grind
theorem UW {P M w}(ok:Ok M)(hM:M.H=w.heap){t id i j ver xs n R rl C}
  (an:M.h id=some (.mat ver xs)) (hC:M.κ id=some C) (hR:C.rows[i]? =some (some R,rl)) (hj:j<rl) (hn:1=P.cellsOf t):
  mW P (storeVar t ⟨R,j,none⟩ (.int .i64 n)) M w [(id,.mat ver (xs.set i ((xs.getD i []).set j n)))]:=by
 obtain⟨C',aF,hO⟩:=ok.obj id _ an;rw[hC] at aF;cases aF;obtain⟨k1,k2,k3,k4,k5,k6⟩:=hO;have hi:i<xs.length:=by
  rw[←k4];rcases Nat.lt_or_ge i C.rows.length with h|h
  ·exact h
  ·rw[List.getElem?_eq_none h] at hR;cases hR
 cases hB:C.blk with
 |none=>rw[hB] at k6;subst k6;simp at hi
 |some B=>
  rw[hB] at k6;obtain⟨vals,e,k7,k8,k9⟩:=k6;obtain⟨rb,v,q1,q2,q3,q4⟩:=k9 i hi;rw[hR] at q1;cases q1;obtain⟨rv,er,q5,q6⟩:=q4 R rfl;have hRB:R≠B:=US k5 hR hB;have xf:j<rv.size:=by
   have:=q6 j hj;rcases Nat.lt_or_ge j rv.size with h|h
   ·exact h
   ·rw[Array.getElem?_eq_none h] at this;cases this
  have e1:xs.getD i []=xs[i]:=by simp[List.getD,hi]
  refine UT ok hM an rfl hC (vTb hR) q5 (by rw[←hn];rfl) (by omega) (by show j+1≤rv.size;omega) (by intro u hu;simp[Value.cells] at hu;subst hu;rfl) fun M' _ _ hG x h1 h2=>?_
  refine⟨k1,by rw[List.length_set];exact k2,k3,by rw[List.length_set];exact k4,k5,?_⟩;rw[hB];refine⟨vals,e,by rw[h2 B (Ne.symm hRB)];exact k7,by rw[List.length_set];exact k8,fun k hk=>?_⟩;rw[List.length_set] at hk;by_cases e2:k=i
  ·subst e2;simp only[List.getElem_set_self,e1,List.length_set];refine⟨some R,v,hR,q2,q3.ext x,fun R' A5=>?_⟩;cases A5;refine⟨_,er,h1,fun m hm=>?_⟩;rw[jY (by show j+1≤rv.size;omega)];show(if m<j then rv[m]? else if m<j+1 then[Value.int .i64 n][m-j]? else rv[m]?)=_;grind
  ·rw[List.getElem_set_ne (Ne.symm e2)];obtain⟨pP,v',p1,p2,p3,p4⟩:=k9 k hk;refine⟨pP,v',p1,p2,p3.ext x,fun R' A5=>?_⟩;subst A5;obtain⟨tW,JJ,p5,p6⟩:=p4 R' rfl;exact⟨tW,JJ,by rw[h2 R' (vLg k5 p1 hR e2)];exact p5,p6⟩
theorem OW {x}:∀(l:List (Option Nat×Nat)) i,(l.filterMap (·.1)).Nodup→(∀R,x.1=some R→R∉l.filterMap (·.1))→
  ((l.set i x).filterMap (·.1)).Nodup∧∀y∈(l.set i x).filterMap (·.1),y∈l.filterMap (·.1)∨x.1=some y
 |[],_,h,_=>by simp
 |a::l,0,h,hx=>by
  grind
 |a::l,i+1,h,hx=>by
  simp only[List.set_cons_succ];cases ha:a.1 with
  |none=>
   rw[List.filterMap_cons_none ha] at h hx⊢;rw[List.filterMap_cons_none ha];exact OW l i h hx
  |some z=>
   rw[List.filterMap_cons_some ha] at h hx⊢;obtain⟨h1,h2⟩:=List.nodup_cons.1 h;obtain⟨k1,k2⟩:=OW l i h2 fun R hR hm=>hx R hR (by grind)
   grind
def zL.absorb (M:zL)(id jd:Nat)(o:Obj)(C:qE)(H:Array Go.Obj):zL:={M with κ:=κset M.κ id C,h:=yM (yM M.h jd .gone) id o,H:=H}
theorem zL.absorb_ok {M}(ok:Ok M){id jd o oj o' C Cj C' H'}(bx:id≠jd)(an:M.h id=some o)(aN:o.owned=true)(hC:M.κ id=some C)
    (dh:M.h jd=some oj) (xg:oj.owned=true) (eM:M.κ jd=some Cj) (hle:C.le C') (rY:∀b∈C'.fp,b∈C.fp∨b∈Cj.fp) (dH:H'.size=M.H.size)
    (hH:∀b,b∉C.fp→H'[b]? =M.H[b]?) (cR:∀b,b<M.H.size→qX H' b=qX M.H b)
    (hO:yT M (M.absorb id jd o' C' H')→vA (M.absorb id jd o' C' H') o' C'):Ok (M.absorb id jd o' C' H')∧yR M (M.absorb id jd o' C' H'):=by
  have xe:∀b,M.F b→b∉C.fp:=fun b hF hb=>(ok.own b ⟨id,o,C,an,aN,hC,hb⟩).1 hF
  have x:yT M (M.absorb id jd o' C' H'):=
    { κ:=fun n D h=>by
        by_cases e:n=id
        · subst e;rw[hC] at h;cases h;exact⟨C',κset_same _ _ _,hle⟩
        · exact⟨D,by simp only[zL.absorb];rw[κset_ne _ _ e];exact h,D.le_refl⟩
      F:=fun _ h=>h
      G:=fun _ h=>h
      same:=fun b h=>hH b (xe b h)
      sameG:=fun b h=>hH b (xe b (ok.GF b h))
      bsz:=cR}
  have bg:∀b∈C'.fp,qN M b:=fun b hb=>by
    rcases rY b hb with hb|hb
    · exact⟨id,o,C,an,aN,hC,hb⟩
    · exact⟨jd,oj,Cj,dh,xg,eM,hb⟩
  have dm:∀n q,n≠id→(M.absorb id jd o' C' H').h n=some q→q.owned=true→n≠jd∧M.h n=some q:=by
    intro n q e h1 h2;simp only[zL.absorb] at h1;rw[yY _ _ e] at h1;by_cases e':n=jd
    · subst e';rw[yV] at h1;cases h1;cases h2
    · rw[yY _ _ e'] at h1;simp_all
  have tS:∀b,qN (M.absorb id jd o' C' H') b→qN M b:=by
    rintro b ⟨n,q,D,h1,h2,h3,h4⟩
    by_cases e:n=id
    · subst e;simp only[zL.absorb,κset_same,Option.some.injEq] at h3;simp_all
    · obtain⟨e',fa⟩:=dm n q e h1 h2;simp only[zL.absorb] at h3;rw[κset_ne _ _ e] at h3;exact⟨n,q,D,fa,h2,h3,h4⟩
  refine⟨ok.build x (fun n=>n=id∨n=jd) (fun n hn=>?_) (fun n hn=>κset_ne _ _ (by grind)) ?_ ?_ (by simp only[zL.absorb];omega) ?_ ?_ ?_ ok.GF ?_,x,by simp only[zL.absorb];omega,?_,by grind,fun b h _=>.inl h,fun b h _=>.inl h⟩
  · simp only[zL.absorb];rw[yY _ _ (by grind),yY _ _ (by grind)]
  · intro n q D hn h1 h2 h3 b hb;exact hH b fun hc=>ok.disj n id q o D C b (by grind) h1 an h2 aN h3 hC hb hc
  · intro n q D hn h1 h2 h3 b hb;exact(ok.own b ⟨n,q,D,h1,h2,h3,hb⟩).1
  · rintro n q (rfl|rfl) h1
    · simp only[zL.absorb,yV,Option.some.injEq] at h1;subst h1;exact⟨C',κset_same _ _ _,hO x⟩
    · simp only[zL.absorb] at h1;rw[yY _ _ (Ne.symm bx),yV] at h1;cases h1;exact⟨Cj,by simp only[zL.absorb];rw[κset_ne _ _ (by grind)];omega,trivial⟩
  · rintro n (rfl|rfl) h1
    · simp only[zL.absorb,yV] at h1;cases h1
    · simp only[zL.absorb] at h1;rw[yY _ _ (by grind),yV] at h1;cases h1
  · rintro n q D b (rfl|rfl) h1 h2 h3 hb
    · simp only[zL.absorb,κset_same,Option.some.injEq] at h3;subst h3;have hbo:=ok.own b (bg b hb);refine⟨fun j qj Dj hj k1 k2 k3 k4=>?_,hbo.1,by simp only[zL.absorb];omega⟩;obtain⟨UX,Eb⟩:=dm j qj hj k1 k2;simp only[zL.absorb] at k3;rw[κset_ne _ _ hj] at k3;rcases rY b hb with hb|hb
      · exact ok.disj j n qj o Dj C b hj Eb an k2 aN k3 hC k4 hb
      · exact ok.disj j jd qj oj Dj Cj b UX Eb dh k2 xg k3 eM k4 hb
    grind
  · intro b hb;have:=ok.Flt b hb;simp only[zL.absorb];omega
  · intro b hb hn;exact hH b fun hc=>hn ⟨id,o,C,an,aN,hC,hc⟩
theorem JK {M t xs C}(h:vA M (.arr true t xs) C):C.rows=[]∧C.fp=C.blk.toList:=by
 have:=h.2.2.1 rfl;exact⟨this,by simp[qE.fp,this]⟩
theorem UY {M}{ys:List Int}{C jd v}(hC:M.κ jd=some C)(hO:vA M (.arr true (.int .i64) ys) C)(hv:zZ M (.osl jd none) v):
  mR M.H C.blk ys.length v∧∀R,C.blk=some R→∃rv er,M.H[R]? =some (.cells rv er (0,0))∧∀j (h':j<ys.length),rv[j]? =some (.int .i64 ys[j]):=by
 obtain⟨h1,h2,h3,h4⟩:=hO;obtain⟨C',aF,A,c,rfl,h⟩:=hv;rw[hC] at aF;cases aF;cases hB:C.blk with
 |none=>
  rw[hB] at h;obtain⟨rfl,e,rfl⟩:=h;exact⟨⟨by rw[e],by omega⟩,by simp⟩
 |some B=>
  rw[hB] at h h4;obtain⟨hc,a,rfl,ha,hs⟩:=h;obtain⟨vals,e,h5,h6,h7,h8⟩:=h4;refine⟨⟨a,c,by rw[h1],by omega,by omega,by simpa[h2,Ty.size] using hs⟩,fun R hR=>?_⟩;cases hR;refine⟨vals,e,h5,fun j hj=>?_⟩;have:=h8 j hj
  simpa[qF,Ty.size] using this
theorem vPl {P M w}(ok:Ok M)(hM:M.H=w.heap){t id jd i ver xs}{ys:List Int}{B C rv}
  (an:M.h id=some (.mat ver xs)) (hC:M.κ id=some C) (hB:C.blk=some B) (hi:i<C.len) (dh:M.h jd=some (.arr true (.int .i64) ys)) (hv:zZ M (.osl jd none) rv) (hn:1=P.cellsOf t):
  mW P (storeVar t ⟨B,i,none⟩ rv) M w [(jd,.gone),(id,.mat (ver+1) (xs.set i ys))]:=by
 obtain⟨C',aF,hO⟩:=ok.obj id _ an;rw[hC] at aF;cases aF;obtain⟨Cj,eM,nN⟩:=ok.obj jd _ dh;obtain⟨jr,jf⟩:=JK nN;have bx:id≠jd:=fun e=>by rw[e,dh] at an;cases an
 obtain⟨r1,r2⟩:=UY eM nN hv;obtain⟨k1,k2,k3,k4,k5,k6⟩:=hO;rw[hB] at k6;obtain⟨vals,e,k7,k8,k9⟩:=k6;have bg:w.heap[B]? =some (.cells vals e (0,0)):=by rw[←hM];exact k7
 have bR:=hv.one;have aH:rv.cells=#[rv]:=by cases rv<;>first|rfl|cases bR
 have aM:i+rv.cells.size≤vals.size:=by rw[aH];show i+1≤vals.size;omega
 have dN:i+rv.cells.toList.length≤vals.size:=by rw[Array.length_toList];exact aM
 have hr:=UK (P:=P) (t:=t) (off:=i) (rv:=rv) bg (by rw[aH];exact hn) (by omega) aM (by intro u hu;rw[aH] at hu;simp at hu;subst hu;exact bR);obtain⟨f1,f2,f3,f4⟩:=oT bg (new:=yZ vals i rv.cells.toList) (gQ dN);have dZ:∀R,Cj.blk=some R→R∉C.fp:=fun R hR hm=>ok.disj id jd _ _ C Cj R bx an dh rfl rfl hC eM hm (fQ hR)
 have dJ:=List.nodup_append.1 k5;obtain⟨s1,s2⟩:=OW (x:=(Cj.blk,ys.length)) C.rows i dJ.2.1 (fun R hR hm=>dZ R hR (by simp only[qE.fp,List.mem_append];exact .inr hm));let D:qE:={C with ver:=ver+1,rows:=C.rows.set i (Cj.blk,ys.length)};have A6:∀b∈D.fp,b∈C.fp∨b∈Cj.fp:=fun b hb=>by
  simp only[qE.fp,List.mem_append] at hb;rcases hb with hb|hb
  ·exact .inl (by simp only[qE.fp,List.mem_append];exact .inl hb)
  ·rcases s2 b hb with hb|hb
   ·exact .inl (by simp only[qE.fp,List.mem_append];exact .inr hb)
   ·exact .inr (fQ hb)
 have A7:D.fp.Nodup:=by
  refine List.nodup_append.2 ⟨dJ.1,s1,fun a ha b hb e=>?_⟩;subst e;rcases s2 a hb with hb|hb
  ·exact dJ.2.2 a ha a hb rfl
  ·exact dZ a hb (by simp only[qE.fp,List.mem_append];exact .inl ha)
 have:=zL.absorb_ok (H':=(w.setRow B (yZ vals i rv.cells.toList)).heap) (o':=.mat (ver+1) (xs.set i ys)) (C':=D) ok bx an rfl hC dh rfl eM ⟨rfl,rfl,rfl,by show C.ver≤ver+1;omega,by grind⟩ A6
  (by rw [hM]; exact f1) (fun b tV => by rw [hM]; exact f3 b fun e => tV (e ▸ fQ hB)) (fun b _ => by rw [hM]; exact f4 b) (fun x=>by
   refine⟨rfl,by rw[List.length_set];exact k2,k3,by simp only[D,List.length_set];exact k4,A7,?_⟩;have UZ:D.blk=some B:=hB;rw[UZ];refine⟨_,e,f2,by rw[List.length_set,gQ dN];exact k8,fun k hk=>?_⟩;rw[List.length_set] at hk;by_cases e2:k=i
   ·subst e2;simp only[List.getElem_set_self];refine⟨Cj.blk,rv,?_,?_,r1.ext x,fun R hR=>?_⟩
    ·simp only[D];rw[List.getElem?_set_self (by omega)]
    ·rw[jY dN,if_neg (by omega),if_pos (by rw[aH];show k<k+1;omega),aH];simp
    ·obtain⟨tW,er,q5,q6⟩:=r2 R hR;refine⟨tW,er,?_,q6⟩;have:R≠B:=fun e=>dZ R hR (e▸fQ hB)
     show(w.setRow B _).heap[R]? =_;rw[f3 R this,←hM];exact q5
   ·rw[List.getElem_set_ne (Ne.symm e2)];obtain⟨pP,v',p1,p2,p3,p4⟩:=k9 k hk;refine⟨pP,v',?_,?_,p3.ext x,fun R' A5=>?_⟩
    ·simp only[D];rw[List.getElem?_set_ne (Ne.symm e2)];exact p1
    ·rw[jY dN,aH];show(if k<i then vals[k]? else if k<i+1 then _ else vals[k]?)=_;split
     ·exact p2
     ·rw[if_neg (by omega)];exact p2
    ·subst A5;obtain⟨tW,JJ,p5,p6⟩:=p4 R' rfl;refine⟨tW,JJ,?_,p6⟩;have:R'≠B:=US k5 p1 hB;show(w.setRow B _).heap[R']? =_;rw[f3 R' this,←hM];exact p5)
 exact⟨_,_,hr,rfl,rfl,rfl,rfl,rfl,this.1,this.2⟩
theorem vX4 {P M w}(ok:Ok M)(hM:M.H=w.heap){t id jd ver n xs}{ys:List Int}{B C rv}
  (an:M.h id=some (.pmat ver xs n)) (hC:M.κ id=some C) (hB:C.blk=some B) (hi:xs.length<C.len) (dh:M.h jd=some (.arr true (.int .i64) ys)) (hv:zZ M (.osl jd none) rv) (hn:1=P.cellsOf t):
  mW P (storeVar t ⟨B,xs.length,none⟩ rv) M w [(jd,.gone),(id,.pmat (ver+1) (xs++[ys]) n)]:=by
 obtain⟨C',aF,hO⟩:=ok.obj id _ an;rw[hC] at aF;cases aF;obtain⟨Cj,eM,nN⟩:=ok.obj jd _ dh;obtain⟨jr,jf⟩:=JK nN;have bx:id≠jd:=fun e=>by rw[e,dh] at an;cases an
 obtain⟨r1,r2⟩:=UY eM nN hv;obtain⟨k1,k2,k3,k4,k5,k0,k6⟩:=hO;rw[hB] at k6;obtain⟨vals,e,k7,k8,k9⟩:=k6;have bg:w.heap[B]? =some (.cells vals e (0,0)):=by rw[←hM];exact k7
 have bR:=hv.one;have aH:rv.cells=#[rv]:=by cases rv<;>first|rfl|cases bR
 have aM:xs.length+rv.cells.size≤vals.size:=by rw[aH];show xs.length+1≤vals.size;omega
 have dN:xs.length+rv.cells.toList.length≤vals.size:=by rw[Array.length_toList];exact aM
 have hr:=UK (P:=P) (t:=t) (off:=xs.length) (rv:=rv) bg (by rw[aH];exact hn) (by omega) aM (by intro u hu;rw[aH] at hu;simp at hu;subst hu;exact bR);obtain⟨f1,f2,f3,f4⟩:=oT bg (new:=yZ vals xs.length rv.cells.toList) (gQ dN);have dZ:∀R,Cj.blk=some R→R∉C.fp:=fun R hR hm=>ok.disj id jd _ _ C Cj R bx an dh rfl rfl hC eM hm (fQ hR)
 have dJ:=List.nodup_append.1 k5;have U0:(C.rows++[(Cj.blk,ys.length)]).filterMap (·.1)=C.rows.filterMap (·.1)++Cj.blk.toList:=by
  rw[List.filterMap_append];cases Cj.blk<;>simp
 have s1:((C.rows++[(Cj.blk,ys.length)]).filterMap (·.1)).Nodup:=by
  rw[U0];refine List.nodup_append.2 ⟨dJ.2.1,by cases Cj.blk<;>simp,fun x hx y hy e=>?_⟩;subst e;have:Cj.blk=some x:=by simpa using hy
  exact dZ x this (by simp only[qE.fp,List.mem_append];exact .inr hx)
 have s2:∀y∈(C.rows++[(Cj.blk,ys.length)]).filterMap (·.1),y∈C.rows.filterMap (·.1)∨Cj.blk=some y:=by simp
 let D:qE:={C with ver:=ver+1,rows:=C.rows++[(Cj.blk,ys.length)]};have A6:∀b∈D.fp,b∈C.fp∨b∈Cj.fp:=fun b hb=>by
  simp only[qE.fp,List.mem_append] at hb;rcases hb with hb|hb
  ·exact .inl (by simp only[qE.fp,List.mem_append];exact .inl hb)
  ·rcases s2 b hb with hb|hb
   ·exact .inl (by simp only[qE.fp,List.mem_append];exact .inr hb)
   ·exact .inr (fQ hb)
 have A7:D.fp.Nodup:=by
  refine List.nodup_append.2 ⟨dJ.1,s1,fun a ha b hb e=>?_⟩;subst e;rcases s2 a hb with hb|hb
  ·exact dJ.2.2 a ha a hb rfl
  ·exact dZ a hb (by simp only[qE.fp,List.mem_append];exact .inl ha)
 have:=zL.absorb_ok (H':=(w.setRow B (yZ vals xs.length rv.cells.toList)).heap) (o':=.pmat (ver+1) (xs++[ys]) n) (C':=D) ok bx an rfl hC dh rfl eM ⟨rfl,rfl,rfl,by show C.ver≤ver+1;omega,fun e=>by have:ver+1=C.ver:=e;omega⟩ A6
  (by rw [hM]; exact f1) (fun b tV => by rw [hM]; exact f3 b fun e => tV (e ▸ fQ hB)) (fun b _ => by rw [hM]; exact f4 b) (fun x=>by
   refine⟨rfl,k2,k3,by simp only[D,List.length_append,k4];rfl,A7,by simp;omega,?_⟩;have UZ:D.blk=some B:=hB;rw[UZ];refine⟨_,e,f2,by rw[gQ dN];exact k8,fun k hk=>?_⟩;rw[List.length_append,List.length_singleton] at hk;by_cases e2:k=xs.length
   ·subst e2;simp only[List.getElem_concat_length];refine⟨Cj.blk,rv,?_,?_,r1.ext x,fun R hR=>?_⟩
    ·simp only[D];rw[List.getElem?_append_right (by omega),k4];simp
    ·rw[jY dN,if_neg (by omega),if_pos (by rw[aH];show xs.length<xs.length+1;omega),aH];simp
    ·obtain⟨tW,er,q5,q6⟩:=r2 R hR;refine⟨tW,er,?_,q6⟩;have:R≠B:=fun e=>dZ R hR (e▸fQ hB)
     show(w.setRow B _).heap[R]? =_;rw[f3 R this,←hM];exact q5
   ·have pQ:k<xs.length:=by omega
    rw[List.getElem_append_left pQ];obtain⟨pP,v',p1,p2,p3,p4⟩:=k9 k pQ;refine⟨pP,v',?_,?_,p3.ext x,fun R' A5=>?_⟩
    ·simp only[D];rw[List.getElem?_append_left (by omega)];exact p1
    ·rw[jY dN,aH];rw[if_pos pQ];exact p2
    ·subst A5;obtain⟨tW,JJ,p5,p6⟩:=p4 R' rfl;refine⟨tW,JJ,?_,p6⟩;have:R'≠B:=US k5 p1 hB;show(w.setRow B _).heap[R']? =_;rw[f3 R' this,←hM];exact p5)
 exact⟨_,_,hr,rfl,rfl,rfl,rfl,rfl,this.1,this.2⟩
theorem OX h {n}:∀{u},(u.any fun p=>Nat.beq p.1 n)=false→qJ h u n=h n
 |[],_=>rfl
 |(id,o)::u,hu=>by
  simp only[List.any_cons,Bool.or_eq_false_iff] at hu;have:n≠id:=fun e=>by simp_all
  show qJ (yM h id o) u n=h n;rw[OX (yM h id o) hu.2,yY _ _ this]
theorem vM8 {P M w}(ok:Ok M)(hM:M.H=w.heap){t a v r u ra rv}(ha:zX M a ra)(hv:zX M v rv)
  (h:yO (DJ P M.h t a v) r u):r=.undef∧mW P (Instr.storeAt t ra rv) M w u:=by
 unfold DJ at h;split at h
 ·exact h.elim
 ·rename_i vs dI;have dv:=OT dI hv;cases hb:(Nat.beq vs.length (P.cellsOf t)&&Nat.blt 0 vs.length) with
  |false=>rw[hb] at h;exact h.elim
  |true=>
   rw[hb] at h;simp only[Bool.and_eq_true] at hb;have hn:=Nat.eq_of_beq_eq_true hb.1;have h0:=UO hb.2;split at h
   ·split at h
    ·rename_i cells an;split at h
     ·rename_i bF hp;obtain⟨_,rfl,rfl⟩:=gP h;obtain⟨C,B,hC,hB,rfl⟩:=ha;have:=UU (P:=P) ok hM (t:=t) an hC hB dv hn h0 hp
      simpa[Instr.storeAt,mW,kG] using this
     ·exact h.elim
    ·exact h.elim
   ·rename_i id i off;split at h
    ·rename_i ty xs U1 u' an Ec;split at h
     ·rename_i x hp;cases hu:(u'.any fun p=>Nat.beq p.1 id) with
      |true=>rw[hu] at h;exact h.elim
      |false=>
      rw[hu] at h;obtain⟨_,rfl,rfl⟩:=gP h;refine⟨rfl,?_⟩;obtain⟨M1,a1,a2,a3,a4,a5,a6,a7⟩:=UN ok (jG.refl _) dv Ec;obtain⟨C,B,hC,hB,hi,hra⟩:=zZ.ext (c:=.eptr id i off) a4.ext ha;have pR:M1.h id=some (.arr true ty xs):=by rw[a2,OX M.h hu];exact an
      have tX:=a5.length;have nO:=dv.length;obtain⟨w',M',b1,b2,b3,b4,b5,b6,b7,b8⟩:=vOr (P:=P) a3 (a1.trans hM) (t:=t) pR hC hB hi a5 (by omega) (by omega) hp;subst hra;exact⟨w',M',by simpa[Instr.storeAt,kG] using b1,b2,b3,b4,b5,by rw[b6,a2,lz],b7,a4.trans b8⟩
     ·exact h.elim
    ·exact h.elim
   ·split at h
    ·rename_i ver xs jd an;split at h
     ·rename_i ys dh;obtain⟨_,rfl,rfl⟩:=gP h;obtain⟨C,B,hC,hB,hi,rfl⟩:=ha;have:=vPl (P:=P) ok hM (t:=t) an hC hB hi dh hv (by cases dI;exact hn)
      simpa[Instr.storeAt,mW,kG] using this
     ·exact h.elim
    ·rename_i ver xs n jd an;split at h
     ·rename_i ys dh;obtain⟨JI,rfl,rfl⟩:=gP h;obtain⟨C,B,hC,hB,hi,rfl⟩:=ha;have JI:=Nat.eq_of_beq_eq_true JI;subst JI;have:=vX4 (P:=P) ok hM (t:=t) an hC hB hi dh hv (by cases dI;exact hn)
      simpa[Instr.storeAt,mW,kG] using this
     ·exact h.elim
    ·exact h.elim
   ·rename_i id i j ver;split at h
    ·rename_i v' xs n an;cases iP:Nat.beq v' ver with
     |false=>rw[iP] at h;exact h.elim
     |true=>
     rw[iP] at h;have e:=Nat.eq_of_beq_eq_true iP;subst e;obtain⟨_,rfl,rfl⟩:=gP h;obtain⟨C,hC,h1,hle,hm⟩:=ha;obtain⟨C',aF,hO⟩:=ok.obj _ _ an;rw[hC] at aF;cases aF;obtain⟨R,rl,k1,k2,rfl⟩:=hm hO.1;have pS:rv=.int .i64 n:=hv;subst pS;have:=UW (P:=P) ok hM (t:=t) (n:=n) an hC k1 k2 (by cases dI;exact hn)
     simpa[Instr.storeAt,mW,kG] using this
    ·exact h.elim
   ·exact h.elim
theorem gw {c s v u}(h:yO (bif c then s else .stuck) v u):c=true∧yO s v u:=by
 cases c with
 |true=>simp_all
 |false=>exact h.elim
theorem OY {c s v u}(h:yO (bif c then .stuck else s) v u):c=false∧yO s v u:=by
 cases c with
 |false=>simp_all
 |true=>exact h.elim
theorem OZ {a b:Nat}(h:Nat.beq a b=false):a≠b:=fun e=>by simp_all
theorem Ed {i n}(h:zB i n=true):0≤i∧i<n∧i.toNat<n:=by
 simp[zB] at h;omega
theorem JL {i mk}:∀{n j v u},OM (DH i mk j n) v u→∃k,j≤k∧k<j+n∧i=(k:Int)∧v=.c (mk k)∧u=[]
 |n+1,j,v,u,h=>by
  rcases h with⟨h1,h2,h3⟩|⟨_,h⟩
  ·grind
  ·obtain⟨k,k1,k2,k3⟩:=JL h;grind
theorem vVb {P M w}(ok:Ok M)(hM:M.H=w.heap){s a v f u ra}(ha:zX M a ra)
  (h:yO (Uf P s a f) v u):qK P (Instr.fieldAt s ra f) M w v u:=by
 unfold Uf at h;split at h
 ·rename_i fs hs;split at h
  ·rename_i fd hf;obtain⟨hz,h⟩:=OY h;have hz:=OZ hz;obtain⟨i,hi⟩:=oQ (P:=P) (t:=fd.type) (by omega);have hr:∀B o,(Instr.fieldAt s (.pointer (some ⟨B,o,none⟩)) f).run P w=.ok (.pointer (some ⟨B,o+fd.offset,none⟩)) w:=by
    simp[Instr.fieldAt,run_underlying hs,hf,kG,fieldPlace,iO w hi,hz,Addr.add_lit]
   split at h
   ·obtain⟨rfl,rfl⟩:=wO h;obtain⟨C,B,hC,hB,rfl⟩:=ha;exact qK.pure ok hM (hr _ _) ⟨C,B,hC,hB,rfl⟩
   ·obtain⟨rfl,rfl⟩:=wO h;obtain⟨C,B,hC,hB,hi,rfl⟩:=ha;exact qK.pure ok hM (hr _ _) ⟨C,B,hC,hB,hi,by grind⟩
   ·obtain⟨rfl,rfl⟩:=wO h;obtain⟨B,o,rfl,hB,hE⟩:=ha;exact qK.pure ok hM (hr _ _) ⟨B,o,by grind,hB,hE⟩
   ·exact h.elim
  ·exact h.elim
 ·exact h.elim
theorem JM {P w t e A}{n c:Nat}{k}{i:Int}{B o}(hu:P.underlying t=some (.slice e))(h0:0≤i)(h1:i<n)(he:0<P.cellsOf e)
  (hA:A=some ⟨B,o,none⟩):(Instr.indexAt t (.slice A n c) (.int k i)).run P w=.ok (.pointer (some ⟨B,o+i.toNat*P.cellsOf e,none⟩)) w:=by
 obtain⟨x,hx⟩:=oQ he;subst hA;simp[Instr.indexAt,asIntOf,run_underlying hu,h0,h1,iO w hx,Addr.add_lit]
theorem vNe {P M w}(ok:Ok M)(hM:M.H=w.heap){t x i v u rx ri}(hx:zX M x rx)(hi:zX M i ri)
  (h:yO (DK P M.h t x i) v u):qK P (Instr.indexAt t rx ri) M w v u:=by
 unfold DK at h;split at h
 ·rename_i e c k n hu;have mb:ri=.int k n:=hi;subst mb;split at h
  ·rename_i sh ty xs;obtain⟨hz,h⟩:=gw h;have hz:=Nat.eq_of_beq_eq_true hz;obtain⟨hb,rfl,rfl⟩:=lY h;obtain⟨b0,b1,b2⟩:=Ed hb;have pT:qF M.H (bif sh then M.G else M.F) (.sl ty) xs (fun _=>some rx):=hx;simp only[qF,Option.some.injEq] at pT;obtain⟨A,m,c,rfl,rfl,hc,pT⟩:=pT;rcases pT with⟨rfl,_⟩|⟨B,o,rfl,hB,hE⟩
   ·simp at b2
   ·refine qK.pure ok hM (JM hu b0 b1 (by rw[hz];exact ty.size_pos) rfl) ⟨B,o+n.toNat*P.cellsOf e,rfl,hB,?_⟩;have e1:xs.getD n.toNat ty.dflt=xs[n.toNat]:=by simp[List.getD,b2]
    rw[e1,hz];exact hE _ b2
  ·rename_i id r;split at h
   ·rename_i own ty xs an;obtain⟨hz,h⟩:=gw h;have hz:=Nat.eq_of_beq_eq_true hz;obtain⟨C,hC,hS⟩:=hx;obtain⟨C',aF,hO⟩:=ok.obj _ _ an;rw[hC] at aF;cases aF;have hlen:=hO.1;have dH:=hO.2.1;have key:∀lo m,lo+m≤C.len→jE M.H C lo m rx→0≤n→n<(m:Int)→∃B,C.blk=some B∧(Instr.indexAt t rx (.int k n)).run P w=.ok (.pointer (some ⟨B,(lo+n.toNat)*C.sz+0,none⟩)) w:=by
     intro lo m hm oU n0 n1;clear hS;obtain⟨A,c,rfl,hS⟩:=oU;cases hB:C.blk with
     |none=>rw[hB] at hS;obtain⟨_,rfl,_⟩:=hS;omega
     |some B=>
      rw[hB] at hS;obtain⟨hc,a,hA,ha,_⟩:=hS;refine⟨B,rfl,?_⟩;rw[JM hu n0 n1 (by rw[hz];exact ty.size_pos) hA];have:a=lo*C.sz:=by rcases ha with ha|ha<;>omega
      rw[this,hz,dH,Nat.add_mul];rfl
    split at h
    ·obtain⟨hb,rfl,rfl⟩:=lY h;obtain⟨b0,b1,b2⟩:=Ed hb;obtain⟨B,hB,hr⟩:=key 0 C.len (by omega) hS b0 (by omega);rw[Nat.zero_add] at hr;exact qK.pure ok hM hr ⟨C,B,hC,hB,by omega,rfl⟩
    ·obtain⟨hb,rfl,rfl⟩:=lY h;obtain⟨b0,b1,b2⟩:=Ed hb;obtain⟨B,hB,hr⟩:=key _ _ hS.1 hS.2.1 b0 b1;exact qK.pure ok hM hr ⟨C,B,hC,hB,by have:=hS.1;omega,rfl⟩
   ·rename_i ver xs an;obtain⟨hz,h⟩:=gw h;have hz:=Nat.eq_of_beq_eq_true hz;split at h
    ·obtain⟨hb,rfl,rfl⟩:=lY h;obtain⟨b0,b1,b2⟩:=Ed hb;obtain⟨C,hC,hS⟩:=hx;obtain⟨C',aF,hO⟩:=ok.obj _ _ an;rw[hC] at aF;cases aF;have hlen:=hO.2.1;obtain⟨A,c,rfl,hS⟩:=hS;cases hB:C.blk with
     |none=>rw[hB] at hS;obtain⟨_,h0,_⟩:=hS;omega
     |some B=>
      rw[hB] at hS;obtain⟨hc,a,hA,ha,_⟩:=hS;have:a=0:=by rcases ha with ha|ha<;>omega
      have hr:=JM (P:=P) (w:=w) (c:=c) (k:=k) hu b0 (show n<(C.len:Int) by omega) (by omega) hA;rw[this,hz,Nat.zero_add,Nat.mul_one] at hr;exact qK.pure ok hM hr ⟨C,B,hC,hB,by omega,rfl⟩
    ·exact h.elim
   ·rename_i ver xs m an;obtain⟨hz,h⟩:=gw h;have hz:=Nat.eq_of_beq_eq_true hz;split at h
    ·obtain⟨hb,rfl,rfl⟩:=lY h;obtain⟨b0,b1,b2⟩:=Ed hb;obtain⟨C,hC,hS⟩:=hx;obtain⟨C',aF,hO⟩:=ok.obj _ _ an;rw[hC] at aF;cases aF;have hlen:=hO.2.1;obtain⟨A,c,rfl,hS⟩:=hS;cases hB:C.blk with
     |none=>rw[hB] at hS;obtain⟨_,h0,_⟩:=hS;omega
     |some B=>
      rw[hB] at hS;obtain⟨hc,a,hA,ha,_⟩:=hS;have:a=0:=by rcases ha with ha|ha<;>omega
      have hr:=JM (P:=P) (w:=w) (c:=c) (k:=k) hu b0 (show n<(C.len:Int) by omega) (by omega) hA;rw[this,hz,Nat.zero_add,Nat.mul_one] at hr;exact qK.pure ok hM hr ⟨C,B,hC,hB,by omega,rfl⟩
    ·exact h.elim
   ·exact h.elim
  ·rename_i id j ver;obtain⟨hz,h⟩:=gw h;have hz:=Nat.eq_of_beq_eq_true hz;split at h
   ·rename_i v' xs an;obtain⟨hv,h⟩:=gw h;have hv:=Nat.eq_of_beq_eq_true hv;subst hv;obtain⟨hb,rfl,rfl⟩:=lY h;obtain⟨b0,b1,b2⟩:=Ed hb;obtain⟨C,hC,h1,hle,hm⟩:=hx;obtain⟨C',aF,hO⟩:=ok.obj _ _ an;rw[hC] at aF;cases aF;obtain⟨rb,rl,k1,k2⟩:=hm hO.1;have hj:j<xs.length:=by
     rw[←hO.2.2.2.1];rcases Nat.lt_or_ge j C.rows.length with h|h
     ·exact h
     ·rw[List.getElem?_eq_none h] at k1;cases k1
    obtain⟨B,pP,x',q0,qv,q1,q2,q3,q4⟩:=D7 hO hj;rw[k1] at q1;cases q1;have e1:xs.getD j []=xs[j]:=by simp[List.getD,hj]
    rw[e1] at b1 b2;cases rb with
    |none=>obtain⟨_,h0⟩:=k2;omega
    |some R=>
     obtain⟨a,c,rfl,hc,ha,_⟩:=k2;have:a=0:=by rcases ha with ha|ha<;>omega
     subst this;have hr:=JM (P:=P) (w:=w) (c:=c) (k:=k) (A:=some ⟨R,0,none⟩) hu b0 b1 (by omega) rfl;rw[hz,Nat.zero_add,Nat.mul_one] at hr;exact qK.pure ok hM hr ⟨C,hC,rfl,hle,by grind⟩
   ·exact h.elim
  ·exact h.elim
 ·rename_i m e id off k n hu;have mb:ri=.int k n:=hi;subst mb;obtain⟨hz,h⟩:=OY h;have hz:=OZ hz;obtain⟨j,j1,j2,rfl,rfl,rfl⟩:=JL h;obtain⟨C,B,hC,hB,rfl⟩:=hx;obtain⟨y,hy⟩:=oQ (P:=P) (t:=e) (by omega);refine qK.pure ok hM (rv:=.pointer (some ⟨B,off+j*P.cellsOf e,none⟩)) ?_ ⟨C,B,hC,hB,rfl⟩;have:(j:Int)<m:=by omega
  have h':¬m≤j:=by omega
  simp[Instr.indexAt,asIntOf,run_underlying hu,kG,this,h',iO w hy,Addr.add_lit]
 ·rename_i m e id q off k n hu;have mb:ri=.int k n:=hi;subst mb;obtain⟨hz,h⟩:=OY h;have hz:=OZ hz;obtain⟨j,j1,j2,rfl,rfl,rfl⟩:=JL h;obtain⟨C,B,hC,hB,hq,rfl⟩:=hx;obtain⟨y,hy⟩:=oQ (P:=P) (t:=e) (by omega);refine qK.pure ok hM (rv:=.pointer (some ⟨B,_+j*P.cellsOf e,none⟩)) ?_ ⟨C,B,hC,hB,hq,by rw[Nat.add_assoc]⟩;have:(j:Int)<m:=by omega
  have h':¬m≤j:=by omega
  simp[Instr.indexAt,asIntOf,run_underlying hu,kG,this,h',iO w hy,Addr.add_lit]
 ·rename_i m e sh t x off k n hu;have mb:ri=.int k n:=hi;subst mb;obtain⟨hz,h⟩:=OY h;have hz:=OZ hz;obtain⟨j,j1,j2,rfl,rfl,rfl⟩:=JL h;obtain⟨B,o,rfl,hB,hE⟩:=hx;obtain⟨y,hy⟩:=oQ (P:=P) (t:=e) (by omega);refine qK.pure ok hM (rv:=.pointer (some ⟨B,_+j*P.cellsOf e,none⟩)) ?_ ⟨B,o,by rw[Nat.add_assoc],hB,hE⟩;have:(j:Int)<m:=by omega
  have h':¬m≤j:=by omega
  simp[Instr.indexAt,asIntOf,run_underlying hu,kG,this,h',iO w hy,Addr.add_lit]
 ·exact h.elim
theorem vE1 {M cs}{us:Array Value}{off n vs}(h:zP (zZ M) cs us.toList)(hc:mO cs off n=some vs):zP (zZ M) vs (us.extract off (off+n)).toList:=by
 obtain⟨h1,rfl,h2⟩:=JG hc;have:=(h.drop off).take n;simp_all
theorem yQ3 {P M w t cs us off vs v}(h:zP (zZ M) cs us.toList)
  (hc:mO cs off (P.cellsOf t)=some vs) (hp:rR (eK P t) vs=some v):∃rv,(part t us off).run P w=.ok rv w∧zX M v rv:=by
 have bn:=vE1 h hc;obtain⟨h1,h2,h3⟩:=JG hc;have hl:=h.length;rcases UF hp with⟨dY,rfl⟩|⟨dY,c,rfl,rfl⟩
 ·obtain⟨⟨d,hd⟩,hr⟩:=tT (P:=P) w dY;obtain⟨i,hi⟩:=ON hd;exact⟨.agg (us.extract off (off+P.cellsOf t)),by simp[part,hr,iO w hi],_,rfl,bn⟩
 ·obtain⟨⟨d,hd⟩,hr⟩:=tT (P:=P) w dY;simp  at h3;have bd:off<us.size:=by grind
  have U2:off<cs.length:=by omega
  refine⟨us[off],by simp[part,hr,bd],?_⟩;have e:cs[off]=c:=by
   have:=congrArg (·[0]?) h2;grind
  have:=h.get off U2 (by omega);show zZ M c us[off];simp_all
theorem U3 {P M w}(ok:Ok M)(hM:M.H=w.heap){s x v f u rx}(hx:zX M x rx)
  (h:yO (Ui P s x f) v u):qK P (Instr.field s rx f) M w v u:=by
 unfold Ui at h;split at h
 ·rename_i fs cs hs;split at h
  ·rename_i fd hf;split at h
   ·rename_i vs hc;obtain⟨h',rfl⟩:=Uz h;obtain⟨us,rfl,oS⟩:=hx;obtain⟨rv,hr,hv⟩:=yQ3 (P:=P) (w:=w) oS hc h';exact qK.pure ok hM (by simp[Instr.field,run_underlying hs,hf,asAgg,hr]) hv
   ·exact h.elim
  ·exact h.elim
 ·exact h.elim
theorem vMj {P M w}(ok:Ok M)(hM:M.H=w.heap){t x i v u rx ri}(hx:zX M x rx)(hi:zX M i ri)
  (h:yO (Ug P t x i) v u):qK P (Instr.index t rx ri) M w v u:=by
 unfold Ug at h;split at h
 ·rename_i m e cs k n hu;have mb:ri=.int k n:=hi;subst mb;obtain⟨hc,h⟩:=gw h;simp only[Bool.and_eq_true] at hc;obtain⟨⟨c1,c2⟩,c3⟩:=hc;have c1:=Nat.eq_of_beq_eq_true c1;have c3:=Nat.eq_of_beq_eq_true c3;obtain⟨j,j1,j2,rfl,rfl,rfl⟩:=JL h;obtain⟨us,rfl,oS⟩:=hx;have dY:eK P e=some false:=by
   grind
  have hj:j<cs.length:=by omega
  have eZ:mO cs j (P.cellsOf e)=some [cs[j]]:=by
   unfold mO;have:Nat.ble (j+P.cellsOf e) cs.length=true:=Nat.ble_eq_true_of_le (by omega);rw[this,c1];simp[List.take_one]
  obtain⟨rv,hr,hv⟩:=yQ3 (P:=P) (w:=w) oS eZ (v:=.c cs[j]) (by rw[dY];rfl);obtain⟨y,hy⟩:=oQ (P:=P) (t:=e) (by omega);have hjm:(j:Int)<m:=by omega
  refine qK.pure ok hM (rv:=rv) ?_ ?_
  ·have h':¬m≤j:=by omega
   simp[Instr.index,asIntOf,run_underlying hu,h',iO w hy,c1,hr]
  simp_all
 ·exact h.elim
theorem U4 {P M w}(ok:Ok M)(hM:M.H=w.heap){t}{s:ByteArray}{i v u ri}(hi:zX M i ri)
  (h:yO (Uh P t s i) v u):qK P (Instr.index t (.string s) ri) M w v u:=by
 unfold Uh at h;split at h
 ·rename_i k n hu;have mb:ri=.int k n:=hi;subst mb;obtain⟨hb,rfl,rfl⟩:=lY h;unfold zB Jx at hb;simp only[Bool.and_eq_true,decide_eq_true_eq,List.length_map] at hb;obtain⟨b1,b2⟩:=hb;have bd:n.toNat<s.data.toList.length:=by omega
  have dH:n.toNat<s.size:=by simpa using bd
  have dm:s[n.toNat]? =some s.data.toList[n.toNat]:=by
   rw[getElem?_pos s n.toNat dH];rfl
  have iQ:(Jx s).getD n.toNat 0=(s.data.toList[n.toNat].toNat:Int):=by
   unfold Jx;rw[List.getD_eq_getElem?_getD,List.getElem?_map,List.getElem?_eq_getElem bd];rfl
  refine qK.pure ok hM (rv:=.int .u8 (s.data.toList[n.toNat].toNat:Int)) ?_ (by rw[iQ];rfl);simp only[Instr.index,asIntOf];simp[run_underlying hu,b1,dm]
 ·exact h.elim
theorem U5 a b:eL a b=(a==b):=by cases a<;>cases b<;>rfl
theorem U6 {P M w}(ok:Ok M)(hM:M.H=w.heap){op k x y xt v u}(hs:op≠.shl∧op≠.shr)
  (h:yO (yTh op k x y) v u):qK P (binOp op xt (.int k x) (.int k y)) M w v u:=by
 cases op with
 |shl=>simp_all
 |shr=>simp_all
 |quo=>
  obtain⟨h1,rfl,rfl⟩:=lY h;simp  at h1;exact qK.pure ok hM (rv:=.int k (k.wrap (x.tdiv y))) (by simp[binOp,Op.intDiv,h1]) rfl
 |rem=>
  obtain⟨h1,rfl,rfl⟩:=lY h;simp[Bool.not_eq_true'] at h1;exact qK.pure ok hM (rv:=.int k (x.tmod y)) (by simp[binOp,Op.intDiv,h1]) rfl
 |neq=>
  obtain⟨rfl,rfl⟩:=wO h;exact qK.pure ok hM (rv:=.bool (!decide (x=y))) (by simp[binOp,Op.intCmp,bne,BEq.beq]) rfl
 |eql=>
  obtain⟨rfl,rfl⟩:=wO h;exact qK.pure ok hM (rv:=.bool (decide (x=y))) (by simp[binOp,Op.intCmp,BEq.beq]) rfl
 |_=>
  obtain⟨rfl,rfl⟩:=wO h;exact qK.pure ok hM (rv:=_) (by simp[binOp];rfl) rfl
theorem vKc {P M w}(ok:Ok M)(hM:M.H=w.heap){op k j x y xt v u}(hs:op=.shl∨op=.shr)
  (h:yO (vA0 op k x y) v u):qK P (binOp op xt (.int k x) (.int j y)) M w v u:=by
 rcases hs with rfl|rfl
 ·obtain⟨h1,rfl,rfl⟩:=lY h;simp only[Bool.not_eq_true',decide_eq_false_iff_not] at h1;exact qK.pure ok hM (rv:=.int k (k.wrap (x*2^(min y.toNat k.bits)))) (by simp only[binOp,Op.shift,h1,if_false];rfl) rfl
 ·obtain⟨h1,rfl,rfl⟩:=lY h;simp only[Bool.not_eq_true',decide_eq_false_iff_not] at h1;exact qK.pure ok hM (rv:=.int k (x.fdiv (2^(min y.toNat k.bits)))) (by simp only[binOp,Op.shift,h1];rfl) rfl
def JN (P:Program)(eqT:TypeId→Bool):Prop:=∀t,eqT t=true→∀(M:zL) (xs ys:List qC) (us vs:Array Value) (r:Bool) (w:World),Oo P t xs ys=some r→
 zP (zZ M) xs us.toList→zP (zZ M) ys vs.toList→P.eqGuardType P.depth t=false∧(Op.equal t (.agg us) (.agg vs)).run P w=.ok r w
def A8:qC→qC→Option Bool
 |.int j a,.int k b=>bif gq j k then some (decide (a=b)) else none
 |.bool a,.bool b=>some (eL a b)
 |_,_=>none
theorem vP7 {x y xs ys r}(h:gu (x::xs) (y::ys)=some r):∃b r',A8 x y=some b∧gu xs ys=some r'∧r=(b&&r'):=by
 have JO:(match A8 x y,gu xs ys with|some b,some r'=>some (b&&r')|_,_=>none)=some r→∃b r',A8 x y=some b∧gu xs ys=some r'∧r=(b&&r'):=by
  grind
 apply JO;rw[←h]
 match x,y with
 |.int j a,.int k b=>
  cases hk:gq j k<;>cases xs<;>cases ys<;>simp only[gu,A8,hk,cond_true]<;>first|grind|rfl
 |.bool a,.bool b=>
  cases xs<;>cases ys<;>simp only[gu,A8]<;>first|grind|rfl
 |.int _ _,.str _|.int _ _,.undef|.int _ _,.bool _|.int _ _,.fsl _ _ _|.int _ _,.nfl _ _ _|.int _ _,.nsl|.int _ _,.osl _ _|.int _ _,.bsl _ _ _|.int _ _,.ptr _ _|.int _ _,.eptr _ _ _|.int _ _,.fptr _ _ _ _|.int _ _,.mrow _ _ _|.int _ _,.mptr _ _|.int _ _,.meptr _ _ _ _|.int _ _,.nilp|.int _ _,.nilf|.int _ _,.nilm|.int _ _,.fn _ _|.int _ _,.map _
 |.bool _,.str _|.bool _,.undef|.bool _,.int _ _|.bool _,.fsl _ _ _|.bool _,.nfl _ _ _|.bool _,.nsl|.bool _,.osl _ _|.bool _,.bsl _ _ _|.bool _,.ptr _ _|.bool _,.eptr _ _ _|.bool _,.fptr _ _ _ _|.bool _,.mrow _ _ _|.bool _,.mptr _ _|.bool _,.meptr _ _ _ _|.bool _,.nilp|.bool _,.nilf|.bool _,.nilm|.bool _,.fn _ _|.bool _,.map _=>cases xs<;>cases ys<;>cases h
def U7 (b:Bool)(us:List Value):Value:=bif b then .agg us.toArray else us.getD 0 (.bool false)
theorem Ee {P:Program}:∀{a r xs},gO (a++r) xs=true→gO a (xs.take a.length)=true∧gO r (xs.drop a.length)=true∧(xs.take a.length).length=a.length
 |[],r,xs,h=>⟨rfl,h,rfl⟩
 |k::a,r,xs,h=>by
  match k,xs,h with
  |some k,.int j n::xs,h=>
   have h':(gq j k&&gO (a++r) xs)=true:=h;rw[Bool.and_eq_true] at h';obtain⟨h1,h2,h3⟩:=Ee (P:=P) h'.2;refine⟨?_,h2,by simp[h3]⟩;show(gq j k&&gO a (xs.take a.length))=true;simp_all
  |none,.bool b::xs,h=>
   have h':gO (a++r) xs=true:=h;obtain⟨h1,h2,h3⟩:=Ee (P:=P) h';exact⟨h1,h2,by simp[h3]⟩
theorem U8:∀{a b c d r},a.length=b.length→gu (a++c) (b++d)=some r→∃r1 r2,gu a b=some r1∧gu c d=some r2∧r=(r1&&r2)
 |[],[],c,d,r,_,h=>⟨true,r,rfl,h,rfl⟩
 |x::a,y::b,c,d,r,hl,h=>by
  obtain⟨e,r',h1,h2,rfl⟩:=vP7 h;obtain⟨r1,r2,h3,h4,rfl⟩:=U8 (by simp_all) h2;refine⟨e&&r1,r2,?_,h4,by grind⟩;have mk:∀{x y:qC} {xs ys:List qC} {b r':Bool},A8 x y=some b→gu xs ys=some r'→xs.length=ys.length→gu (x::xs) (y::ys)=some (b&&r'):=by
   intro x y xs ys b r' h1 h2 hl;cases x<;>cases y<;>first|(cases h1;done)|skip
   ·rename_i j m k n;simp[A8] at h1;cases hk:gq j k with
    |false=>simp_all
    |true=>
     rw[hk] at h1;cases h1;cases xs<;>cases ys
     ·cases h2;simp[gu,hk]
     ·cases hl
     ·cases hl
     ·simp[gu,hk,h2]
   ·cases h1;cases xs<;>cases ys
    ·cases h2;simp[gu]
    ·cases hl
    ·cases hl
    ·simp[gu,h2]
  grind
def U9 (P:Program)(dd:Nat)(t:TypeId)(ks:List (Option IntKind)):Prop:=∃b,eK P t=some b∧(b=false→ks.length=1)∧∀(M:zL) (w:World) (us vs:List Value) (xs ys:List qC) (r:Bool),
 gO ks xs=true→gO ks ys=true→gu xs ys=some r→zP (zZ M) xs us→zP (zZ M) ys vs→(Op.equalIn dd t (U7 b us) (U7 b vs)).run P w=.ok r w
theorem sd:∀{ks xs},gO ks xs=true→xs.length=ks.length
 |[],[],_=>rfl
 |some k::ks,.int j n::xs,h=>by
  have h':(gq j k&&gO ks xs)=true:=h;rw[Bool.and_eq_true] at h';simp[sd h'.2]
 |none::ks,.bool b::xs,h=>by
  have h':gO ks xs=true:=h;simp[sd h']
theorem O0 {P t b}(ht:eK P t=some b){us off w}(hn:off+P.cellsOf t≤us.size)(h1:b=false→P.cellsOf t=1)(h0:∃i,P.info? t=some i):
  (part t us off).run P w=.ok (U7 b ((us.toList.drop off).take (P.cellsOf t))) w:=by
 obtain⟨⟨d,hd⟩,hr⟩:=tT (P:=P) w ht;cases b with
 |true=>
  obtain⟨i,hi⟩:=h0;simp[part,hr,iO w hi]
  congr 2
  grind
 |false=>
  have h1:=h1 rfl;have bd:off<us.size:=by omega
  have e:us[off]? =some us[off]:=by simp
  have e2:(us.toList.drop off).take 1=[us[off]]:=by
   rw[List.drop_eq_getElem_cons (by omega)];simp
  simp[part,hr,e,h1,e2];rfl
theorem yNg {P dd M w us vs rec}:∀fs i ks xs ys r,(∀f∈fs,∀a,rec f.type=some a→U9 P dd f.type a)→
  On P rec i fs=some ks→gO ks xs=true→gO ks ys=true→gu xs ys=some r→zP (zZ M) xs (us.toList.drop i)→zP (zZ M) ys (vs.toList.drop i)→(Op.eqFields dd us vs fs).run P w=.ok r w
 |[],i,ks,xs,ys,r,_,hk,hx,hy,he,hu,hv=>by
  cases hk;cases xs with
  |cons _ _=>cases hx
  |nil=>cases ys with
   |cons _ _=>cases hy
   |nil=>cases he;rfl
 |f::fs,i,ks,xs,ys,r,bn,hk,hx,hy,he,hu,hv=>by
  unfold On at hk;cases hc:(Nat.beq f.offset i&& !(f.name== "_")) with
  |false=>rw[hc] at hk;cases hk
  |true=>
   rw[hc] at hk;rw[Bool.and_eq_true] at hc;have ho:f.offset=i:=by simpa using hc.1
   have hn:f.name≠ "_" :=by simpa using hc.2
   dsimp only[cond_true] at hk;split at hk
   ·rename_i a r0 ha tY;cases hl:(Nat.beq a.length (P.cellsOf f.type)&&Nat.blt 0 a.length) with
    |false=>rw[hl] at hk;cases hk
    |true=>
     rw[hl] at hk;cases hk;rw[Bool.and_eq_true] at hl;have O1:0<a.length:=by have:=hl.2;simp[Nat.blt] at this;omega
     have hl:=Nat.eq_of_beq_eq_true hl.1;obtain⟨b,hb,j8,hE⟩:=bn f (List.mem_cons_self ..) a ha;obtain⟨x1,x2,x3⟩:=Ee (P:=P) hx;obtain⟨y1,y2,y3⟩:=Ee (P:=P) hy;have ex:xs=xs.take a.length++xs.drop a.length:=(List.take_append_drop _ _).symm;have ey:ys=ys.take a.length++ys.drop a.length:=(List.take_append_drop _ _).symm;rw[ex,ey] at he;obtain⟨r1,r2,e1,e2,rfl⟩:=U8 (by rw[x3,y3]) he;have Ef:=hu.length;have Va:=hv.length;have A9:=sd hx;have Ba:=sd hy;rw[List.length_append] at A9 Ba;have Bb:=hu.take a.length;have nP:=hv.take a.length;have Bc:=hu.drop a.length;have pS:=hv.drop a.length;rw[List.drop_drop] at Bc pS;have h0:∃i,P.info? f.type=some i:=by
      obtain⟨⟨d,hd⟩,_⟩:=tT (P:=P) w hb;exact ON hd
     have step:=hE M w _ _ _ _ r1 x1 y1 e1 Bb nP;rw[hl] at Bc pS;have ih:=yNg (w:=w) fs (i+P.cellsOf f.type) r0 _ _ r2 (fun g hg=>bn g (List.mem_cons_of_mem _ hg)) tY x2 y2 e2 (by rw[hl];exact Bc) (by rw[hl];exact pS);have bu:i+P.cellsOf f.type≤us.size:=by simp at Ef;omega
     have bv:i+P.cellsOf f.type≤vs.size:=by simp at Va;omega
     have p1:=O0 (w:=w) hb bu (by grind) h0;have p2:=O0 (w:=w) hb bv (fun e=>by have:=j8 e;omega) h0;rw[hl] at step;unfold Op.eqFields;rw[if_pos hn,ho];simp only[Sem.run_bind,p1,p2,Result.andThen_ok,step];cases r1 with
     |true=>grind
     |false=>simp
   ·cases hk
theorem yV9 {P dd M w us vs e a}(hE:U9 P dd e a)(hl:a.length=P.cellsOf e)(O1:0<a.length):∀c j xs ys r,
  gO (AT c a) xs=true→gO (AT c a) ys=true→gu xs ys=some r→zP (zZ M) xs (us.toList.drop (j*P.cellsOf e))→zP (zZ M) ys (vs.toList.drop (j*P.cellsOf e))→(Op.eqItems dd e (P.cellsOf e) us vs (List.range' j c)).run P w=.ok r w
 |0,j,xs,ys,r,hx,hy,he,hu,hv=>by
  cases xs with
  |cons _ _=>cases hx
  |nil=>cases ys with
   |cons _ _=>cases hy
   |nil=>cases he;rfl
 |c+1,j,xs,ys,r,hx,hy,he,hu,hv=>by
  obtain⟨b,hb,j8,OV⟩:=id hE;obtain⟨x1,x2,x3⟩:=Ee (P:=P) hx;obtain⟨y1,y2,y3⟩:=Ee (P:=P) hy;have ex:xs=xs.take a.length++xs.drop a.length:=(List.take_append_drop _ _).symm;have ey:ys=ys.take a.length++ys.drop a.length:=(List.take_append_drop _ _).symm;rw[ex,ey] at he;obtain⟨r1,r2,e1,e2,rfl⟩:=U8 (by rw[x3,y3]) he;have Ef:=hu.length;have Va:=hv.length;have A9:=sd hx;have Ba:=sd hy;have se:(AT (c+1) a).length=a.length+(AT c a).length:=by show(a++AT c a).length=_;rw[List.length_append]
  rw[se] at A9 Ba;have Bb:=hu.take a.length;have nP:=hv.take a.length;have Bc:=hu.drop a.length;have pS:=hv.drop a.length;rw[List.drop_drop] at Bc pS;have h0:∃i,P.info? e=some i:=by
   obtain⟨⟨d,hd⟩,_⟩:=tT (P:=P) w hb;exact ON hd
  have step:=OV M w _ _ _ _ r1 x1 y1 e1 Bb nP;have ej:j*P.cellsOf e+a.length=(j+1)*P.cellsOf e:=by rw[Nat.add_mul];omega
  rw[ej] at Bc pS;have ih:=yV9 (w:=w) hE hl O1 c (j+1) _ _ r2 x2 y2 e2 Bc pS;have bu:j*P.cellsOf e+P.cellsOf e≤us.size:=by simp at Ef;omega
  have bv:j*P.cellsOf e+P.cellsOf e≤vs.size:=by simp at Va;omega
  have p1:=O0 (w:=w) hb bu (by grind) h0;have p2:=O0 (w:=w) hb bv (fun e=>by have:=j8 e;omega) h0;rw[hl] at step;rw[show List.range' j (c+1)=j::List.range' (j+1) c from rfl];simp only[Op.eqItems,Sem.run_bind,p1,p2,Result.andThen_ok,step];cases r1 with
  |true=>grind
  |false=>simp
theorem Vb {P} d:∀m t ks,P.keyTypeAt m t=true→DD P m t=some ks→U9 P (d+m) t ks
 |0,_,_,h,_=>by simp[Program.keyTypeAt] at h
 |m+1,t,ks,hk,h=>by
  unfold Program.keyTypeAt at hk;unfold DD at h;split at h
  ·rename_i k hu;cases h;refine⟨false,by unfold eK;rw[hu],fun _=>rfl,fun M w us vs xs ys r hx hy he sf iP=>?_⟩;have A9:=sd hx;have Ba:=sd hy
   match xs,ys,us,vs,hx,hy,sf,iP,A9,Ba with
   |[.int j a],[.int j' c],[u],[v],hx,hy,⟨Bb,_⟩,⟨nP,_⟩,_,_=>
    have e1:u=.int j a:=Bb;have e2:v=.int j' c:=nP;subst e1;subst e2;simp only[gu] at he;cases hk:gq j j' with
    |false=>rw[hk] at he;cases he
    |true=>
     rw[hk] at he;cases he;rw[←tI hk];exact run_equalIn_int (P:=P) w (d+m) t j k a c hu
  ·rename_i hu;cases h;refine⟨false,by unfold eK;rw[hu],fun _=>rfl,fun M w us vs xs ys r hx hy he sf iP=>?_⟩;have A9:=sd hx;have Ba:=sd hy
   match xs,ys,us,vs,hx,hy,sf,iP,A9,Ba with
   |[.bool a],[.bool c],[u],[v],hx,hy,⟨Bb,_⟩,⟨nP,_⟩,_,_=>
    have e1:u=.bool a:=Bb;have e2:v=.bool c:=nP;subst e1;subst e2;cases he;show(Op.equalIn (d+m+1) t (.bool a) (.bool c)).run P w=_;rw[run_equalIn_bool' (P:=P) w (d+m) t a c hu,U5]
  ·rename_i fs hu;simp only[hu,Bool.and_eq_true,Bool.not_eq_true'] at hk;refine⟨true,by unfold eK;rw[hu],by simp,fun M w us vs xs ys r hx hy he sf iP=>?_⟩;have hf:P.fieldsOf t=fs:=by unfold Program.fieldsOf;rw[hu]
   have:=run_equalIn_struct (P:=P) w (d+m) t us.toArray vs.toArray (by rw[hf];exact hu) hk.2;rw[hf] at this;refine this.trans (yNg (rec:=DD P m) _ 0 ks xs ys r (fun f hf a ha=>?_) h hx hy he (by simpa using sf) (by simpa using iP));have hkf:=Array.all_eq_true_iff_forall_mem.1 hk.1.1 f (by grind);simp only[Bool.and_eq_true,bne_iff_ne,ne_eq] at hkf;exact Vb d m f.type a hkf.2 ha
  ·rename_i n e hu;simp only[hu] at hk;split at h
   ·rename_i a ha;cases hl:(Nat.beq a.length (P.cellsOf e)&&Nat.blt 0 a.length) with
    |false=>rw[hl] at h;cases h
    |true=>
     rw[hl] at h;cases h;rw[Bool.and_eq_true] at hl;have O1:0<a.length:=by have:=hl.2;simp[Nat.blt] at this;omega
     have hl:=Nat.eq_of_beq_eq_true hl.1;refine⟨true,by unfold eK;rw[hu],(by simp),fun M w us vs xs ys r hx hy he sf iP=>?_⟩;obtain⟨i,hi⟩:=oQ (P:=P) (t:=e) (by omega);have:=run_equalIn_array (P:=P) w (d+m) us.toArray vs.toArray hu hi;refine this.trans ?_;rw[List.range_eq_range'];exact yV9 (Vb d m e a hk ha) hl O1 n 0 xs ys r hx hy he (by simpa using sf) (by simpa using iP)
   ·cases h
  ·cases h
theorem O2 {P eqT}(h:∀t,eqT t=true→(P.keyTypeAt 8 t&& !P.eqGuardType P.depth t)=true):JN P eqT:=by
 intro t ht M xs ys us vs r w he hu hv;have h:=h t ht;simp  at h;refine⟨h.2,?_⟩;unfold Oo at he;split at he
 ·rename_i ks hk;unfold vJp at hk;split at hk
  ·cases hc:(gO ks xs&&gO ks ys) with
   |false=>simp_all
   |true=>
    rw[hc] at he;rw[Bool.and_eq_true] at hc;obtain⟨b,hb,_,hE⟩:=Vb (P:=P) 9992 8 t ks h.1 hk;have:b=true:=by
     unfold eK at hb;simp_all
    subst this;exact hE M w us.toList vs.toList xs ys r hc.1 hc.2 he hu hv
  ·cases hk
 ·cases he
theorem yU6 {P t}(h:Oq P t=true):P.underlying t=some .bool:=by
 unfold Oq at h;grind
theorem Vc {P eqT}(heq:JN P eqT){M w}(ok:Ok M)(hM:M.H=w.heap){op xt ox oy x y v u rx ry}
  (hx:zX M x rx) (hy:zX M y ry) (h:yO (Ud P eqT op xt ox oy x y) v u):qK P (do eqGuard op xt ox oy rx ry;binOp op xt rx ry) M w v u:=by
 have quiet:∀{k j:IntKind} {a b:Int},(eqGuard op xt ox oy (.int k a) (.int j b)).run P w=.ok () w:=by
  unfold eqGuard;simp
 have step:∀{a b:Value},(eqGuard op xt ox oy a b).run P w=.ok () w→qK P (binOp op xt a b) M w v u→qK P (do eqGuard op xt ox oy a b;binOp op xt a b) M w v u:=by
  rintro a b hg ⟨rv,w',M',h1,h2⟩
  exact⟨rv,w',M',by simp_all,h2⟩
 unfold Ud at h;split at h
 ·have e1:rx=_:=hx;have e2:ry=_:=hy;subst e1;subst e2;exact step quiet (vKc ok hM (.inl rfl) h)
 ·have e1:rx=_:=hx;have e2:ry=_:=hy;subst e1;subst e2;exact step quiet (vKc ok hM (.inr rfl) h)
 ·obtain⟨hk,h2⟩:=gw h;have hk:=tI hk;subst hk;have e1:rx=_:=hx;have e2:ry=_:=hy;subst e1;subst e2;exact step quiet (U6 ok hM (by grind) h2)
 ·rename_i a b;have e1:rx=_:=hx;have e2:ry=_:=hy;subst e1;subst e2;obtain⟨hb,h2⟩:=gw h;obtain⟨rfl,rfl⟩:=wO h2;have hr:=run_equalIn_bool' (P:=P) w 9999 xt a b (yU6 hb);refine qK.pure ok hM (rv:=.bool (eL a b)) ?_ rfl;have sg:(Op.equal xt (.bool a) (.bool b)).run P w=.ok (a==b) w:=hr;have hg:(eqGuard .eql xt ox oy (.bool a) (.bool b)).run P w=.ok () w:=by rfl
  simp only[Sem.run_bind,hg,Result.andThen_ok,binOp,sg,Sem.run_pure,U5]
 ·rename_i a b;have e1:rx=_:=hx;have e2:ry=_:=hy;subst e1;subst e2;obtain⟨hb,h2⟩:=gw h;obtain⟨rfl,rfl⟩:=wO h2;have hr:=run_equalIn_bool' (P:=P) w 9999 xt a b (yU6 hb);refine qK.pure ok hM (rv:=.bool (!eL a b)) ?_ rfl;have sg:(Op.equal xt (.bool a) (.bool b)).run P w=.ok (a==b) w:=hr;have hg:(eqGuard .neq xt ox oy (.bool a) (.bool b)).run P w=.ok () w:=by rfl
  simp only[Sem.run_bind,hg,Result.andThen_ok,binOp,sg,Sem.run_pure,U5]
 ·rename_i a b;have e1:rx=_:=hx;have e2:ry=_:=hy;subst e1;subst e2;obtain⟨rfl,rfl⟩:=wO h;have hg:(eqGuard .eql xt ox oy (.string ⟨(nH a).toArray⟩) (.string ⟨(nH b).toArray⟩)).run P w=.ok () w:=by rfl
  refine qK.pure ok hM (rv:=.bool (oO a b)) ?_ rfl;simp only[hg,binOp_string_eql,ByteArray.toList_eq];rfl
 ·rename_i a b;have e1:rx=_:=hx;have e2:ry=_:=hy;subst e1;subst e2;obtain⟨rfl,rfl⟩:=wO h;have hg:(eqGuard .neq xt ox oy (.string ⟨(nH a).toArray⟩) (.string ⟨(nH b).toArray⟩)).run P w=.ok () w:=by rfl
  refine qK.pure ok hM (rv:=.bool (!oO a b)) ?_ rfl;simp only[hg,Result.andThen_ok,binOp_string_neq,ByteArray.toList_eq,Sem.run_pure];rfl
 ·obtain⟨ht,h⟩:=gw h;split at h
  ·rename_i r hr;obtain⟨rfl,rfl⟩:=wO h;obtain⟨us,rfl,oS⟩:=hx;obtain⟨vs,rfl,dI⟩:=hy;obtain⟨g1,g2⟩:=heq xt ht M _ _ us vs r w hr oS dI;exact step (run_eqGuard_agg w _ xt ox oy us vs g1) (qK.pure ok hM (rv:=.bool r) (by simp only[binOp,Sem.run_bind,g2,Result.andThen_ok];rfl) rfl)
  ·exact h.elim
 ·obtain⟨ht,h⟩:=gw h;split at h
  ·rename_i r hr;obtain⟨rfl,rfl⟩:=wO h;obtain⟨us,rfl,oS⟩:=hx;obtain⟨vs,rfl,dI⟩:=hy;obtain⟨g1,g2⟩:=heq xt ht M _ _ us vs r w hr oS dI;exact step (run_eqGuard_agg w _ xt ox oy us vs g1) (qK.pure ok hM (rv:=.bool (!r)) (by simp only[binOp,Sem.run_bind,g2];rfl) rfl)
  ·exact h.elim
 ·exact h.elim
theorem Vd {P M w}(ok:Ok M)(hM:M.H=w.heap){op x v u rx}(hx:zX M x rx)(h:yO (Ue op x) v u):
  qK P (Op.unary op rx) M w v u:=by
 unfold Ue at h;split at h
 ·obtain⟨rfl,rfl⟩:=wO h;have e1:rx=_:=hx;subst e1;exact qK.pure ok hM rfl rfl
 ·obtain⟨rfl,rfl⟩:=wO h;have e1:rx=_:=hx;subst e1;exact qK.pure ok hM rfl rfl
 ·exact h.elim
theorem Bd {P w k}{i:Int}{y:Nat}{c}(h0:0≤i)(h1:i≤y):(Instr.sliceBound (.int k i) y c).run P w=.ok i.toNat w:=by
 simp[Instr.sliceBound,asIntOf,h0,h1]
def Eg (M:zL):Option zY→Option Value→Prop
 |none,none=>True
 |some a,some v=>zX M a v
 |_,_=>False
theorem JP {P M w b len cap l u lo hi kH j9}(mc:Eg M lo kH)(lB:Eg M hi j9)(hc:len≤cap)
  (h:wv len lo hi=some (true,l,u)):(Instr.sliceBounds b len cap kH j9 none).run P w=.ok (l,u,cap) w∧l≤u∧u≤len∧(lo=none→l=0)∧(hi=none→u=len):=by
 unfold wv at h;split at h
 ·cases h;cases kH with
  |some _=>exact mc.elim
  |none=>cases j9 with
   |some _=>exact lB.elim
   |none=>exact⟨by rfl,by simp,by simp,by simp,by simp⟩
 ·rename_i k i;simp  at h;obtain⟨⟨h0,h1⟩,rfl,rfl⟩:=h;cases j9 with
  |some _=>exact lB.elim
  |none=>cases kH with
   |none=>exact mc.elim
   |some v=>
    have e:v=.int k i:=mc;subst e;refine⟨?_,by omega,by simp,by simp,by simp⟩;simp[Instr.sliceBounds];rw[Bd h0 h1];rfl
 ·rename_i k i;simp  at h;obtain⟨⟨h0,h1⟩,rfl,rfl⟩:=h;cases kH with
  |some _=>exact mc.elim
  |none=>cases j9 with
   |none=>exact lB.elim
   |some v=>
    have e:v=.int k i:=lB;subst e;refine⟨?_,by simp,by omega,by simp,by simp⟩;simp only[Instr.sliceBounds,Sem.run_bind,Sem.run_pure,Result.andThen_ok];rw[Bd h0 (by omega)];rfl
 ·rename_i k i k' i';simp  at h;obtain⟨⟨⟨h0,h1⟩,h2⟩,rfl,rfl⟩:=h;cases kH with
  |none=>exact mc.elim
  |some v=>cases j9 with
   |none=>exact lB.elim
   |some v'=>
    have e:v=.int k i:=mc;have e':v'=.int k' i':=lB;subst e;subst e';refine⟨?_,by omega,by omega,by simp,by simp⟩;simp[Instr.sliceBounds];rw[Bd (by omega) (by omega)];simp;rw[Bd h0 (by omega)];rfl
 ·cases h
def oV (A:Option Addr)(l c size:Nat):Option Addr:=if c=l then A else A.map (·.add (l*size))
theorem jE.cut {H C lo n l u A c}(h:jE H C lo n (.slice A n c))(h1:l≤u)(h2:u≤n):
  jE H C (lo+l) (u-l) (.slice (oV A l c C.sz) (u-l) (c-l)):=by
 obtain⟨A',c',e,h⟩:=h;obtain⟨rfl,_,rfl⟩:=e;refine⟨_,_,rfl,?_⟩;cases hB:C.blk with
 |none=>
  rw[hB] at h;obtain⟨rfl,rfl,rfl⟩:=h;refine⟨?_,by omega,by omega⟩;unfold oV;simp
 |some B=>
  rw[hB] at h;obtain⟨hc,a,rfl,ha,hs⟩:=h;refine⟨by omega,?_⟩;unfold oV;by_cases e:c=l
  ·simp_all
  ·rw[if_neg e];refine⟨a+l*C.sz,by simp[Addr.add_lit],.inr ?_,by grind⟩;grind
theorem jE.cut' {H C lo n l u A c}(h:jE H C lo n (.slice A n c))(h1:l≤u)(h2:u≤c):
  jE H C (lo+l) (u-l) (.slice (oV A l c C.sz) (u-l) (c-l)):=by
 obtain⟨A',c',e,h⟩:=h;obtain⟨rfl,_,rfl⟩:=e;refine⟨_,_,rfl,?_⟩;cases hB:C.blk with
 |none=>
  rw[hB] at h;obtain⟨rfl,rfl,rfl⟩:=h;refine⟨?_,by omega,by omega⟩;unfold oV;simp
 |some B=>
  rw[hB] at h;obtain⟨hc,a,rfl,ha,hs⟩:=h;refine⟨by omega,?_⟩;unfold oV;by_cases e:c=l
  ·simp_all
  ·rw[if_neg e];refine⟨a+l*C.sz,by simp[Addr.add_lit],.inr ?_,by grind⟩;grind
theorem Ve {H F t}{xs:List t.den}{A n c l u}(h:qF H F (.sl t) xs (fun _=>some (.slice A n c)))(h1:l≤u)(h2:u≤n):
  qF H F (.sl t) (qO xs l (u-l)) (fun _=>some (.slice (oV A l c t.size) (u-l) (c-l))):=by
 simp[qF] at h⊢;obtain⟨A',n',c',⟨rfl,rfl,rfl⟩,hn,hc,h⟩:=h;have hl:=D9 (xs:=xs) (lo:=l) (n:=u-l) (by omega);refine⟨_,_,_,⟨rfl,rfl,rfl⟩,hl.symm,by omega,?_⟩;by_cases e0:u-l=0
 ·refine .inl ⟨by grind,fun hA=>?_⟩;rcases h with⟨rfl,h0⟩|⟨B,o,rfl,_⟩
  ·cases A with
   |none=>simp_all
   |some a=>
    unfold oV at hA;grind
  ·unfold oV at hA;grind
 ·rcases h with⟨rfl,_⟩|⟨B,o,rfl,hB,hE⟩
  ·simp_all
  ·refine .inr ⟨B,o+l*t.size,?_,hB,fun i hi=>?_⟩
   ·unfold oV;rw[if_neg (by omega)];simp[Addr.add_lit]
   ·obtain⟨bI,e1⟩:=OU hi;grind
theorem yLk {P w t e A n c l u kH j9}(hu:P.underlying t=some (.slice e))(he:0<P.cellsOf e)
  (hb:(Instr.sliceBounds true n c kH j9 none).run P w=.ok (l,u,c) w):
  (Instr.sliceAt t (.slice A n c) kH j9 none).run P w=.ok (.slice (oV A l c (P.cellsOf e)) (u-l) (c-l)) w:=by
 obtain⟨y,hy⟩:=oQ he;simp[Instr.sliceAt,run_underlying hu,Instr.slice,hb,iO w hy,oV]
theorem yP0 {M}:∀{vs us ns},AW vs=some ns→zP (zZ M) vs us→us=ns.map (.int .i64 ·)∧vs=ns.map (.int .i64 ·)
 |[],[],ns,h,_=>by cases h;simp
 |v::vs,u::us,ns,h,hh=>by
  unfold AW at h;split at h
  ·simp_all
  ·rename_i n l heq;cases heq;split at h
   ·rename_i r hr;cases h;obtain⟨e1,e2⟩:=yP0 hr hh.2;have:u=.int .i64 n:=hh.1;simp_all
   ·cases h
  ·cases h
theorem vH4 {M}(ok:Ok M){id own cells}(an:M.h id=some (.box own cells)):
  ∃M',M'.H=M.H∧M'.h=yM M.h id (.box false cells)∧Ok M'∧yR M M'∧M'.h id=some (.box false cells):=by
 cases own with
 |false=>exact⟨M,rfl,(D8 an).symm,ok,yR.refl M,an⟩
 |true=>
  obtain⟨C,hC,hO⟩:=ok.obj id _ an;have tU:vA (M.freeze id (.box false cells) C) (.box false cells) C:=by
   have x:yT M (M.freeze id (.box false cells) C):=⟨fun _ C h=>⟨C,h,C.le_refl⟩,fun _ h=>.inl h,fun _ h=>.inl h,fun _ _=>rfl,fun _ _=>rfl,fun _ _=>rfl⟩;obtain⟨B,vals,e,h1,h2,h3,h4,h5⟩:=hO.ext x fun _ _ _=>rfl
   exact⟨B,vals,e,h1,h2,h3,h4,fun _=>.inr (fQ h1)⟩
  have:=zL.freeze_ok ok an rfl hC rfl tU;exact⟨M.freeze id _ C,rfl,rfl,this.1,this.2,yV _ _ _⟩
theorem vUt {P}{M}{w}(ok:Ok M)(hM:M.H=w.heap){t}{x v}{lo hi mx u rx kH j9 Eh}
  (hx:zX M x rx) (mc:Eg M lo kH) (lB:Eg M hi j9) (JQ:Eg M mx Eh) (h:yO (DQ P M.h t x lo hi mx) v u):qK P (Instr.sliceAt t rx kH j9 Eh) M w v u:=by
 unfold DQ at h;split at h
 ·rename_i e sh ty xs hu;cases Eh with
  |some _=>exact JQ.elim
  |none=>
  obtain⟨hz,h⟩:=gw h;have hz:=Nat.eq_of_beq_eq_true hz;split at h
  ·rename_i gT l u' hc;obtain⟨rfl,rfl,rfl⟩:=lY h;have pT:qF M.H (bif sh then M.G else M.F) (.sl ty) xs (fun _=>some rx):=hx;have Ei:=pT;simp only[qF,Option.some.injEq] at Ei;obtain⟨A,m,c,rfl,rfl,l9,_⟩:=Ei;obtain⟨b1,b2,b3,b4,b5⟩:=JP (P:=P) (w:=w) (b:=true) mc lB l9 hc;refine qK.pure ok hM (yLk hu (by rw[hz];exact ty.size_pos) b1) ?_;have key:=Ve pT b2 b3;rw[←hz] at key;show qF _ _ _ _ _;split
   ·rw[b4 rfl,b5 rfl] at key⊢
    simpa[qO] using key
   ·rw[b5 rfl] at key⊢;have:qO xs l (xs.length-l)=xs.drop l:=by simp only[qO];rw[List.take_of_length_le (by simp)]
    rw[this] at key;exact key
   ·rw[b4 rfl] at key⊢
    simpa[qO] using key
   ·exact key
  ·exact h.elim
 ·rename_i e id r hu;cases Eh with
  |some _=>exact JQ.elim
  |none=>
  split at h
  ·rename_i own ty xs an;obtain⟨hz,h⟩:=gw h;have hz:=Nat.eq_of_beq_eq_true hz;split at h
   ·rename_i gT l u' hc;obtain⟨rfl,rfl,rfl⟩:=lY h;obtain⟨C,hC,hS⟩:=hx;obtain⟨C',aF,hO⟩:=ok.obj _ _ an;rw[hC] at aF;cases aF;have hlen:=hO.1;have dH:=hO.2.1;have key:∀tZ m,tZ+m≤C.len→jE M.H C tZ m rx→Uy C tZ rx→wv (match hi with|none=>m|some _=>C.len-tZ) lo hi=some (true,l,u')→
      qK P (Instr.sliceAt t rx kH j9 none) M w (.c (.osl id (some (tZ+l,u'-l)))) []:=by
     intro tZ m hm oU iR l9;have hS0:=oU;clear hS;obtain⟨A,c,rfl,_⟩:=hS0;obtain⟨_,_,_,iR,JR⟩:=iR;cases iR;have Vf:m≤c:=by
      obtain⟨A',c',e,Vg⟩:=oU;simp only[Value.slice.injEq] at e;obtain⟨rfl,_,rfl⟩:=e;cases hB:C.blk with
      |none=>rw[hB] at Vg;omega
      |some B=>rw[hB] at Vg;exact Vg.1
     have hb:∃k,(Instr.sliceBounds true m c kH j9 none).run P w=.ok (l,u',c) w∧l≤u'∧u'≤k∧k≤c∧tZ+k≤C.len:=by
      cases hi with
      |none=>
       obtain⟨b1,b2,b3,b4,b5⟩:=JP (P:=P) (w:=w) (b:=true) mc lB Vf l9;exact⟨m,b1,b2,b3,Vf,hm⟩
      |some y=>
       have hk:C.len-tZ≤c:=by omega
       obtain⟨b1,b2,b3,b4,b5⟩:=JP (P:=P) (w:=w) (b:=true) mc lB hk l9;refine⟨C.len-tZ,?_,b2,b3,hk,by omega⟩;cases j9 with
       |none=>exact lB.elim
       |some ry=>exact b1
     obtain⟨k,b1,b2,b3,b6,b7⟩:=hb;refine qK.pure ok hM (yLk hu (by rw[hz];exact ty.size_pos) b1) ⟨C,hC,by omega,?_,_,_,_,rfl,by omega⟩;have:=jE.cut' oU b2 (by grind);rw[hz,←dH];exact this
    cases r with
    | none => exact key 0 C.len (by omega) hS (by
      obtain⟨A,c,rfl,h⟩:=hS;refine⟨A,_,c,rfl,?_⟩;cases hB:C.blk with
      |none=>rw[hB] at h;omega
      | some B => rw [hB] at h; have := h.1; omega) (by
      unfold Uk at hc;rw[←hlen] at hc;cases hi<;>exact hc)
    | some p => exact key p.1 p.2 hS.1 hS.2.1 hS.2.2 (by
      unfold Uk at hc;rw[←hlen] at hc;cases hi<;>exact hc)
   ·exact h.elim
  ·exact h.elim
 ·rename_i e km m id hu;split at h
  ·rename_i own ty xs an;obtain⟨hz,h⟩:=gw h;have hz:=Nat.eq_of_beq_eq_true hz;split at h
   ·skip
    rename_i a b gT l u' _ hc;obtain⟨fR,rfl,rfl⟩:=lY h;simp only[Bool.and_eq_true,decide_eq_true_eq] at fR;obtain⟨⟨fR,h1⟩,h2⟩:=fR;subst fR;obtain⟨C,hC,hS⟩:=hx;obtain⟨C',aF,hO⟩:=ok.obj _ _ an;rw[hC] at aF;cases aF;have hlen:=hO.1;obtain⟨A,c,rfl,hS⟩:=hS;have Vf:C.len≤c:=by
     cases hB:C.blk with
     |none=>rw[hB] at hS;omega
     |some B=>rw[hB] at hS;exact hS.1
    cases Eh with
    |none=>exact JQ.elim
    |some rm=>
     have hrm:rm=.int km m:=JQ;subst hrm;obtain⟨b1,b2,b3,b4,b5⟩:=JP (P:=P) (w:=w) (b:=true) mc lB (Nat.le_refl xs.length) hc;obtain⟨i,hi⟩:=oQ (P:=P) (t:=e) (by rw[hz];exact ty.size_pos);cases kH with
     |none=>exact mc.elim
     |some rl=>cases j9 with
      |none=>exact lB.elim
      |some rh=>
       have hbb:∃k1 i1 k2 i2,rl=.int k1 i1∧rh=.int k2 i2∧0≤i1∧i1≤i2∧i2≤(xs.length:Int)∧l=i1.toNat∧u'=i2.toNat:=by
        unfold wv at hc;split at hc
        ·rename_i e1 _;cases e1
        ·rename_i e1;cases e1
        ·rename_i e1 _;cases e1
        ·rename_i k i k' i' e1 e2;cases e1;cases e2;simp only[Option.some.injEq,Prod.mk.injEq,Bool.and_eq_true,decide_eq_true_eq] at hc;obtain⟨⟨⟨q0,q1⟩,q2⟩,rfl,rfl⟩:=hc;exact⟨k,i,k',i',mc,lB,q0,q1,q2,rfl,rfl⟩
        ·cases hc
       obtain⟨k1,i1,k2,i2,rfl,rfl,q0,q1,q2,rfl,rfl⟩:=hbb;have hr:∃v,(Instr.sliceAt t (.slice A C.len c) (some (.int k1 i1)) (some (.int k2 i2)) (some (.int km m))).run P w=.ok v w∧v.one1=true:=by
        refine⟨.slice (if m.toNat=i1.toNat then A else A.map (·.add (i1.toNat*P.cellsOf e))) (i2.toNat-i1.toNat) (m.toNat-i1.toNat),?_,rfl⟩;have e1:=Bd (P:=P) (w:=w) (k:=km) (i:=m) (y:=c) (c:=.slice3Acap) (by omega) (by omega);have e2:=Bd (P:=P) (w:=w) (k:=k2) (i:=i2) (y:=m.toNat) (c:=.slice3B) (by omega) (by omega);have e3:=Bd (P:=P) (w:=w) (k:=k1) (i:=i1) (y:=i2.toNat) (c:=.slice3C) (by omega) (by omega);simp[Instr.sliceAt,run_underlying hu,Instr.slice,Instr.sliceBounds,e1,e2,e3,iO w hi]
       obtain⟨v,hr,hv⟩:=hr;exact qK.pure ok hM hr hv
   ·exact h.elim
  ·exact h.elim
 ·rename_i n e id off hu;cases Eh with
  |some _=>exact JQ.elim
  |none=>
  obtain⟨hz,h⟩:=gw h;have hz:=Nat.eq_of_beq_eq_true hz;obtain⟨y,hy⟩:=oQ (P:=P) (t:=e) (by omega);split at h
  ·rename_i own cells an;obtain⟨C,B,hC,hB,rfl⟩:=hx;split at h
   ·obtain⟨_,h⟩:=gw h;obtain⟨rfl,rfl⟩:=wO h;have Vh:kH=none:=by cases kH with
     |none=>rfl
     |some _=>exact mc.elim
    have Vi:j9=none:=by cases j9 with
     |none=>rfl
     |some _=>exact lB.elim
    subst Vh;subst Vi;refine qK.pure ok hM (rv:=.slice (some ⟨B,off,none⟩) n n) ?_ ⟨C,B,hC,hB,rfl⟩;simp[Instr.sliceAt,run_underlying hu,kG,Instr.sliceBounds,iO w hy,Addr.add_lit]
   ·split at h
    ·rename_i vs eZ;split at h
     ·rename_i ns gT l u' Vj hc;obtain⟨rfl,rfl,rfl⟩:=gP h;obtain⟨b1,b2,b3,b4,b5⟩:=JP (P:=P) (w:=w) (b:=false) mc lB (Nat.le_refl n) hc;obtain⟨M',a1,a2,a3,a4,a5⟩:=vH4 ok an;obtain⟨C1,iS,le⟩:=a4.ext.κ id C hC;obtain⟨C2,hC2,hO⟩:=a3.obj id _ a5;rw[iS] at hC2;cases hC2;obtain⟨B',vals,ev,k1,k2,k3,k4,k5⟩:=hO;rw[le.blk,hB] at k1;cases k1;obtain⟨q1,q2,q3⟩:=JG eZ;have bn:=vE1 k4 eZ;obtain⟨e1,e2⟩:=yP0 Vj bn;have hlen:ns.length=n:=by rw[e2] at q3;simpa[hz] using q3
      refine⟨.slice (some (if n=l then⟨B,off,none⟩ else⟨B,off+l*P.cellsOf e,none⟩)) (u'-l) (n-l),w,M',?_,rfl,rfl,rfl,a1.trans hM,by cases own with
       |true=>exact a2
       |false=>rw[a2];exact D8 an,a3,a4,?_⟩
      ·simp[Instr.sliceAt,run_underlying hu,kG,b1,iO w hy,Addr.add_lit]
      ·show qF M'.H (bif true then M'.G else M'.F) (.sl (.int .i64)) (qO ns l (u'-l)) (fun _=>some _);simp only[qF,Option.some.injEq,Value.slice.injEq];have hl:=D9 (xs:=ns) (lo:=l) (n:=u'-l) (by omega);refine⟨_,_,_,⟨rfl,rfl,rfl⟩,hl.symm,by omega,?_⟩;by_cases e0:u'-l=0
       ·exact by grind
       ·refine .inr ⟨B,off+l*P.cellsOf e,by rw[if_neg (by omega)],k5 rfl,fun i hi=>?_⟩;obtain⟨bI,e3⟩:=OU hi;rw[e3,hz];simp only[qF,Ty.size,Nat.mul_one,Nat.add_zero,yX,k3];have e4:(vals.extract off (off+n)).toList[l+i]? =(ns.map (Value.int .i64 ·))[l+i]? :=by rw[e1]
        simp only[Array.getElem?_toList,List.getElem?_map,List.getElem?_eq_getElem bI,Option.map_some] at e4;rw[Array.getElem?_extract] at e4;split at e4
        ·rw[Nat.add_assoc];exact e4
        ·cases e4
     ·exact h.elim
    ·exact h.elim
  ·exact h.elim
 ·exact h.elim
end Go.Ab
