/- part 0 -/
import Derived.Calls
import Derived.Orders
import Derived.KernelRfl
import Derived.Laws.Append
import Derived.Laws.AppendOwn
import Derived.Laws.MakeOwn
import Derived.Laws.IdiomCopy
import Derived.Laws.StructEq
import Derived.Laws.CopyRow
import Derived.ChangeKeysEq
set_option linter.unusedVariables false
namespace Go.Ab
inductive Ty where
 |int (k:IntKind)|bool|sl (t:Ty)|pair (a b:Ty)
abbrev Ty.den:Ty→Type
 |.int _=>Int|.bool=>Bool|.sl t=>List t.den|.pair a b=>a.den×b.den
def Ty.size:Ty→Nat
 |.int _=>1|.bool=>1|.sl _=>1|.pair a b=>a.size+b.size
def Ty.flat:Ty→Bool
 |.int _|.bool=>true|.sl _=>false|.pair a b=>a.flat&&b.flat
def Ty.dflt:(t:Ty)→t.den
 |.int _=>(0:Int)|.bool=>false|.sl t=>([]:List t.den)|.pair a b=>(a.dflt,b.dflt)
def vY:IntKind→IntKind→Bool
 |.i8,.i8|.i16,.i16|.i32,.i32|.i64,.i64|.u8,.u8|.u16,.u16|.u32,.u32|.u64,.u64=>true
 |_,_=>false
theorem ka {a b}(h:vY a b=true):a=b:=by cases a<;>cases b<;>first|rfl|cases h
def iD:Ty→Ty→Bool
 |.int j,.int k=>vY j k
 |.bool,.bool=>true
 |.sl a,.sl b=>iD a b
 |.pair a b,.pair c d=>iD a c&&iD b d
 |_,_=>false
theorem tO:∀{a b},iD a b=true→a=b
 |.int j,.int k,h=>congrArg Ty.int (ka h)
 |.bool,.bool,_=>rfl
 |.sl a,.sl b,h=>congrArg Ty.sl (tO (a:=a) (b:=b) h)
 |.pair a b,.pair c d,h=>by
  simp[iD] at h;rw[tO h.1,tO h.2]
def wG (a b:Ty)(xs:List a.den):Option (List b.den):=
 if h:iD a b=true then some (tO h▸xs) else none
inductive zN where
 |undef
 |int (k:IntKind) (n:Int)
 |bool (b:Bool)
 |fsl (sh:Bool) (t:Ty) (xs:List t.den)
 |nfl (sh:Bool) (t:Ty) (xs:List t.den)
 |nsl
 |osl (id:Nat) (r:Option (Nat×Nat))
 |bsl (id off len:Nat)
 |ptr (id off:Nat)
 |eptr (id i off:Nat)
 |fptr (sh:Bool) (t:Ty) (x:t.den) (off:Nat)
 |mrow (id i ver:Nat)
 |mptr (id i:Nat)
 |meptr (id i j ver:Nat)
 |nilp|nilf|nilm
 |fn (f:Nat) (cap:List Nat)
 |map (id:Nat)
 |str (xs:List Int)
inductive zO where
 |undef
 |skp
 |c (v:zN)
 |agg (vs:List zN)
 |tup (xs:List (Bool×List zN))
inductive Obj where
 |box (own:Bool) (cells:List zN)
 |robox (cells:List zN)
 |arr (own:Bool) (t:Ty) (xs:List t.den)
 |mat (ver:Nat) (xs:List (List Int))
 |pmat (ver:Nat) (xs:List (List Int)) (n:Nat)
 |imap (bQ:List (Int×Bool))
 |gone
abbrev Hp:=Nat→Option Obj
abbrev qV:=List (Nat×Obj)
def qH (h:Hp)(id:Nat)(o:Obj):Hp:=fun n=>bif Nat.beq n id then some o else h n
def zX (h:Hp):qV→Hp
 |[]=>h
 |(id,o)::u=>zX (qH h id o) u
structure St where
 t:Nat→zO
 h:Hp
def vG (t:Nat→zO)(d:Nat)(v:zO):Nat→zO:=fun n=>bif Nat.beq n d then v else t n
def wT (t:Nat→zO)(d:Option Nat)(v:zO):Nat→zO:=match d with
 |some d=>vG t d v
 |none=>t
inductive qQ where
 |alts (l:List (Bool×zO×qV))
 |call (X:Type) (x:Option X) (f:X→zO×qV)
 |call2 (X Y:Type) (x:Option (X⊕Y)) (f:X→zO×qV) (g:Y→zO×qV)
def qQ.stuck:qQ:=.alts []
def qQ.one (v:zO):qQ:=.alts [(true,v,[])]
def qQ.when (c:Bool)(v:zO):qQ:=.alts [(c,v,[])]
def DQ {R:Type}(K:zO→qV→Option R):List (Bool×zO×qV)→Option R
 |[]=>none
 |(c,v,u)::l=>bif c then K v u else DQ K l
def qQ.elim {R}(s:qQ)(K:zO→qV→Option R):Option R:=match s with
 |.alts l=>DQ K l
 |.call _ x f=>x.bind fun r=>K (f r).1 (f r).2
 |.call2 _ _ x f g=>x.bind fun r=>match r with
  |.inl a=>K (f a).1 (f a).2
  |.inr b=>K (g b).1 (g b).2
def nf:Value→zN
 |.int k n=>.int k n
 |.bool b=>.bool b
 |.slice none 0 0=>.nsl
 |.pointer none=>.nilp
 |.nilFunc=>.nilf
 |.map none=>.nilm
 |_=>.undef
def ng:Value→Bool
 |.agg _|.tuple _=>false
 |_=>true
def DR:Value→zO
 |.agg cs=>bif cs.toList.all ng then .agg (cs.toList.map nf) else .undef
 |.tuple _=>.undef
 |v=>.c (nf v)
def St.ev (st:St):Operand→zO
 |.tmp t=>st.t t
 |.const v=>DR v
 |.global _=>.undef
 |.func f=>.c (.fn f [])
def cellsOf (sh:Bool):(t:Ty)→t.den→List zN
 |.int k,n=>[.int k n]
 |.bool,b=>[.bool b]
 |.sl t,xs=>[.fsl sh t xs]
 |.pair a b,p=>cellsOf sh a p.1++cellsOf sh b p.2
def DS (k:IntKind):Nat→zN→Option Int
 |0,.int j n=>bif vY j k then some n else none
 |_,_=>none
def DT:Nat→zN→Option Bool
 |0,.bool b=>some b
 |_,_=>none
def DU (t:Ty):Nat→zN→Option (List t.den)
 |0,.fsl true s xs=>wG s t xs
 |0,.nsl=>some []
 |_,_=>none
def kb:(t:Ty)→t.den→Nat→zN→Option t.den
 |.int k,_,off,v=>DS k off v
 |.bool,_,off,v=>DT off v
 |.sl t,_,off,v=>DU t off v
 |.pair a b,p,off,v=>bif Nat.blt off a.size then(match kb a p.1 off v with|some x=>some (x,p.2)|none=>none)
   else(match kb b p.2 (off-a.size) v with|some y=>some (p.1,y)|none=>none)
def kc (t:Ty):t.den→Nat→List zN→Option t.den
 |x,_,[]=>some x
 |x,off,v::vs=>match kb t x off v with
  |some y=>kc t y (off+1) vs
  |none=>none
def tP (t:Ty)(vs:List zN):Option t.den:=bif Nat.beq vs.length t.size then kc t t.dflt 0 vs else none
def yC {α:Type}(xs:List α)(lo n:Nat):List α:=(xs.drop lo).take n
def wU {α}(xs:List α):Option (Nat×Nat)→List α
 |none=>xs
 |some (lo,n)=>yC xs lo n
def eN:List (Option Ty)→Option Ty
 |[]=>none
 |[t]=>t
 |a::l=>match a,eN l with
  |some x,some y=>some (.pair x y)
  |_,_=>none
def yp (P:Program):Nat→TypeId→Option Ty
 |0,_=>none
 |d+1,t=>match P.underlying t with
  |some (.int k)=>some (.int k)
  |some .bool=>some .bool
  |some (.slice e)=>(yp P d e).map .sl
  |some (.struct fs)=>eN (fs.toList.map fun f=>yp P d f.type)
  |some (.array n e)=>eN (List.replicate n (yp P d e))
  |_=>none
def wH:Ty→List Value
 |.int k=>[.int k 0]
 |.bool=>[.bool false]
 |.sl _=>[.slice none 0 0]
 |.pair a b=>wH a++wH b
def DV:Value→Value→Bool
 |.int j a,.int k b=>vY j k&&decide (a=b)
 |.bool a,.bool b=>bif a then b else !b
 |.slice none 0 0,.slice none 0 0=>true
 |_,_=>false
def tQ:List Value→List Value→Bool
 |[],[]=>true
 |a::l,b::m=>DV a b&&tQ l m
 |_,_=>false
def jK (P:Program)(e:TypeId):Option Ty:=match yp P 8 e,P.info? e with
 |some t,some i=>match i.zero with
  |some z=>bif Nat.beq i.size t.size&&tQ z.cells.toList (wH t) then some t else none
  |none=>none
 |_,_=>none
def vI (P:Program)(t:TypeId):Option Bool:=match P.underlying t with
 |some (.struct _)|some (.array _ _)=>some true
 |some _=>some false
 |none=>none
def zeroCells (P:Program)(t:TypeId):Option (List zN):=match P.info? t with
 |some i=>match i.zero with
  |some v=>bif Nat.beq v.cells.size i.size&&v.cells.toList.all ng then some (v.cells.toList.map nf) else none
  |none=>none
 |none=>none
def iE (agg:Option Bool)(vs:List zN):Option zO:=match agg with
 |some true=>some (.agg vs)
 |some false=>match vs with
  |[v]=>some (.c v)
  |_=>none
 |none=>none
def qQ.ofO:Option zO→qQ
 |some v=>.one v
 |none=>.stuck
def eO (cells:List zN)(off n:Nat):Option (List zN):=
 bif Nat.ble (off+n) cells.length then some ((cells.drop off).take n) else none
def nh (cells:List zN)(off:Nat):List zN→Option (List zN)
 |[]=>some cells
 |v::vs=>bif Nat.blt off cells.length then nh (cells.set off v) (off+1) vs else none
def fO:zO→Option (List zN)
 |.c v=>some [v]
 |.agg vs=>some vs
 |_=>none
def ke (f:(n:Nat)→BitVec n→BitVec n→BitVec n)(k:IntKind)(x y:Int):Int:=
 k.wrap (f k.bits (BitVec.ofInt k.bits x) (BitVec.ofInt k.bits y)).toNat
def NP (op:BinOp)(k:IntKind)(x y:Int):qQ:=match op with
 |.add=>.one (.c (.int k (k.wrap (x+y))))
 |.sub=>.one (.c (.int k (k.wrap (x-y))))
 |.mul=>.one (.c (.int k (k.wrap (x*y))))
 |.quo=>.when (!decide (y=0)) (.c (.int k (k.wrap (x.tdiv y))))
 |.rem=>.when (!decide (y=0)) (.c (.int k (x.tmod y)))
 |.and=>.one (.c (.int k (ke (fun _ a b=>a&&&b) k x y)))
 |.or=>.one (.c (.int k (ke (fun _ a b=>a|||b) k x y)))
 |.xor=>.one (.c (.int k (ke (fun _ a b=>a^^^b) k x y)))
 |.andNot=>.one (.c (.int k (ke (fun _ a b=>a&&&~~~b) k x y)))
 |.eql=>.one (.c (.bool (decide (x=y))))
 |.neq=>.one (.c (.bool (!decide (x=y))))
 |.lss=>.one (.c (.bool (decide (x<y))))
 |.leq=>.one (.c (.bool (decide (x≤y))))
 |.gtr=>.one (.c (.bool (decide (x>y))))
 |.geq=>.one (.c (.bool (decide (x≥y))))
 |_=>.stuck
def NQ (op:BinOp)(k:IntKind)(x y:Int):qQ:=match op with
 |.shl=>.when (!decide (y<0)) (.c (.int k (k.wrap (x*2^(min y.toNat k.bits)))))
 |.shr=>.when (!decide (y<0)) (.c (.int k (x.fdiv (2^(min y.toNat k.bits)))))
 |_=>.stuck
def jC (a b:Bool):Bool:=bif a then b else !b
def vZ:List zN→List zN→Option Bool
 |[],[]=>some true
 |[.int j a],[.int k b]=>bif vY j k then some (decide (a=b)) else none
 |.int j a::l,.int k b::m=>bif vY j k then(match vZ l m with|some r=>some (decide (a=b)&&r)|none=>none) else none
 |[.bool a],[.bool b]=>some (jC a b)
 |.bool a::l,.bool b::m=>match vZ l m with|some r=>some (jC a b&&r)|none=>none
 |_,_=>none
def yq (P:Program)(rec:TypeId→Option (List (Option IntKind))):Nat→List Field→Option (List (Option IntKind))
 |_,[]=>some []
 | i, f :: l => bif Nat.beq f.offset i && !(f.name == "_") then (match rec f.type,yq P rec (i+P.cellsOf f.type) l with
  |some a,some r=>bif Nat.beq a.length (P.cellsOf f.type)&&Nat.blt 0 a.length then some (a++r) else none
  |_,_=>none) else none
def ni {α:Type}:Nat→List α→List α
 |0,_=>[]
 |n+1,l=>l++ni n l
def pH (P:Program):Nat→TypeId→Option (List (Option IntKind))
 |0,_=>none
 |d+1,t=>match P.underlying t with
  |some (.int k)=>some [some k]
  |some .bool=>some [none]
  |some (.struct fs)=>yq P (pH P d) 0 fs.toList
  |some (.array n e)=>match pH P d e with
   |some a=>bif Nat.beq a.length (P.cellsOf e)&&Nat.blt 0 a.length then some (ni n a) else none
   |none=>none
  |_=>none
def NR (P:Program)(t:TypeId):Option (List (Option IntKind)):=match P.underlying t with
 |some (.struct _)=>pH P 8 t
 |_=>none
def wB:List (Option IntKind)→List zN→Bool
 |[],[]=>true
 |some k::l,.int j _::cs=>vY j k&&wB l cs
 |none::l,.bool _::cs=>wB l cs
 |_,_=>false
def yr (P:Program)(t:TypeId)(a b:List zN):Option Bool:=match NR P t with
 |some ks=>bif wB ks a&&wB ks b then vZ a b else none
 |none=>none
def DW (d:TypeDesc)(y:Operand)(x:zN):Option Bool:=match d,y,x with
 |.slice _,.const (.slice none 0 0),.nsl=>some true
 |.slice _,.const (.slice none 0 0),.nfl _ _ _=>some false
 |.pointer _,.const (.pointer none),.nilp=>some true
 |.pointer _,.const (.pointer none),.ptr _ _|.pointer _,.const (.pointer none),.eptr _ _ _|.pointer _,.const (.pointer none),.fptr _ _ _ _=>some false
 |.func _ _ _,.const .nilFunc,.nilf=>some true
 |.func _ _ _,.const .nilFunc,.fn _ _=>some false
 |.map _ _,.const (.map none),.nilm=>some true
 |.map _ _,.const (.map none),.map _=>some false
 |_,_,_=>none
def iF:BinOp→Bool→Bool
 |.eql,b=>b
 |_,b=> !b
def DX:BinOp→Bool
 |.eql|.neq=>true
 |_=>false
def DY:Operand→Bool
 |.const (.slice none 0 0)|.const (.pointer none)|.const .nilFunc|.const (.map none)=>true
 |_=>false
def fP (xs:List Int):List UInt8:=xs.map fun n=>UInt8.ofNat n.toNat
def yt (xs ys:List Int):Bool:=fP xs==fP ys
def yu (P:Program)(t:TypeId):Bool:=match P.underlying t with
 |some .bool=>true
 |_=>false
def DZ (P:Program)(eqT:TypeId→Bool)(op:BinOp)(cV:TypeId)(ox oy:Operand)(x y:zO):qQ:=match op,x,y with
 |.shl,.c (.int k a),.c (.int _ b)|.shr,.c (.int k a),.c (.int _ b)=>NQ op k a b
 |_,.c (.int k a),.c (.int j b)=>bif vY k j then NP op k a b else .stuck
 |.eql,.c (.bool a),.c (.bool b)=>bif yu P cV then .one (.c (.bool (jC a b))) else .stuck
 |.neq,.c (.bool a),.c (.bool b)=>bif yu P cV then .one (.c (.bool (!jC a b))) else .stuck
 |.eql,.c (.str a),.c (.str b)=>.one (.c (.bool (yt a b)))
 |.neq,.c (.str a),.c (.str b)=>.one (.c (.bool (!yt a b)))
 |.eql,.agg a,.agg b=>bif eqT cV then(match yr P cV a b with|some r=>.one (.c (.bool r))|none=>.stuck) else .stuck
 |.neq,.agg a,.agg b=>bif eqT cV then(match yr P cV a b with|some r=>.one (.c (.bool (!r)))|none=>.stuck) else .stuck
 |_,_,_=>.stuck
def D2 (op:UnOp)(x:zO):qQ:=match op,x with
 |.not,.c (.bool b)=>.one (.c (.bool (!b)))
 |.neg,.c (.int k n)=>.one (.c (.int k (k.wrap (0-n))))
 |_,_=>.stuck
def jM (h:Hp):zN→Option ((t:Ty)×List t.den)
 |.fsl _ t xs=>some ⟨t,xs⟩
 |.osl id r=>match h id with
  |some (.arr _ t xs)=>some ⟨t,wU xs r⟩
  |some (.mat _ xs)=>match r with
   |none=>some ⟨.sl (.int .i64),xs⟩
   |some _=>none
  |_=>none
 |.mrow id i ver=>match h id with
  |some (.mat v xs)=>bif Nat.beq v ver then some ⟨.int .i64,xs.getD i []⟩ else none
  |_=>none
 |_=>none
def pI (h:Hp):zN→Option (List Int)
 |.nsl=>some []
 |c=>match jM h c with
  |some ⟨.int .u8,xs⟩=>some xs
  |_=>none
def pJ (h:Hp)(v:zN):Option Nat:=match v with
 |.nsl=>some 0
 |.bsl _ _ n=>some n
 |v=>match jM h v with
  |some ⟨_,xs⟩=>some xs.length
  |none=>none
def pK (h:Hp):zN→Option Nat
 |.fsl _ _ xs=>some xs.length
 |.osl id none=>match h id with
  |some (.arr _ _ xs)=>some xs.length
  |_=>none
 |_=>none
def fQ (h:Hp):zN→Option (zN×qV)
 |.osl id r=>match h id with
  |some (.arr _ t xs)=>some (.fsl true t (wU xs r),[(id,.arr false t xs)])
  |some (.mat _ xs)=>match r with
   |none=>some (.fsl true (.sl (.int .i64)) xs,[(id,.arr false (.sl (.int .i64)) xs)])
   |some _=>none
  |_=>none
 |.mrow _ _ _=>none
 |v=>some (v,[])
def fq (h:Hp):List zN→Option (List zN×qV)
 |[]=>some ([],[])
 |v::vs=>match fQ h v,fq h vs with
  |some (v,u),some (vs,us)=>some (v::vs,u++us)
  |_,_=>none
def zC (i:Int)(n:Nat):Bool:=decide (0≤i)&&decide (i<(n:Int))
def pL (i:Int)(mk:Nat→zN):Nat→Nat→List (Bool×zO×qV)
 |_,0=>[]
 |j,n+1=>(decide (i=(j:Int)),.c (mk j),[])::pL i mk (j+1) n
def tR (P:Program)(t:TypeId)(cells:List zN)(off:Nat):qQ:=.ofO ((eO cells off (P.cellsOf t)).bind (iE (vI P t)))
def pM (P:Program)(h:Hp)(t:TypeId)(a:zO):qQ:=
 match a with
 |.c (.ptr id off)=>match h id with
  |some (.box _ cells)=>tR P t cells off
  |some (.robox cells)=>tR P t cells off
  |_=>.stuck
 |.c (.fptr sh ty x off)=>tR P t (cellsOf sh ty x) off
 |.c (.eptr id i off)=>match h id with
  |some (.arr _ ty xs)=>tR P t (cellsOf true ty (xs.getD i ty.dflt)) off
  |_=>.stuck
 |.c (.mptr id i)=>match h id with
  |some (.mat ver _)=>match vI P t with|some false=>.one (.c (.mrow id i ver))|_=>.stuck
  |_=>.stuck
 |.c (.meptr id i j ver)=>match h id with
  |some (.mat v xs)=>bif Nat.beq v ver then(match vI P t with|some false=>.one (.c (.int .i64 ((xs.getD i []).getD j 0)))|_=>.stuck) else .stuck
  |_=>.stuck
 |_=>.stuck
def pN (P:Program)(h:Hp)(t:TypeId)(a v:zO):qQ:=
 match fO v with
 |none=>.stuck
 | some vs => bif Nat.beq vs.length (P.cellsOf t) && Nat.blt 0 vs.length then (match a with
  |.c (.ptr id off)=>match h id with
   |some (.box true cells)=>match nh cells off vs with
    |some cells=>.alts [(true,.undef,[(id,.box true cells)])]
    |none=>.stuck
   |_=>.stuck
  |.c (.eptr id i off)=>match h id,fq h vs with
   |some (.arr true ty xs),some (vs,u)=>match kc ty (xs.getD i ty.dflt) off vs with
    |some x=>bif u.any (fun p=>Nat.beq p.1 id) then .stuck else .alts [(true,.undef,u++[(id,.arr true ty (xs.set i x))])]
    |none=>.stuck
   |_,_=>.stuck
  |.c (.mptr id i)=>match h id,v with
   |some (.mat ver xs),.c (.osl jd none)=>match h jd with
    |some (.arr true (.int .i64) ys)=>.alts [(true,.undef,[(jd,.gone),(id,.mat (ver+1) (xs.set i ys))])]
    |_=>.stuck
   |some (.pmat ver xs n),.c (.osl jd none)=>match h jd with
    |some (.arr true (.int .i64) ys)=>.alts [(Nat.beq i xs.length,.undef,[(jd,.gone),(id,.pmat (ver+1) (xs++[ys]) n)])]
    |_=>.stuck
   |_,_=>.stuck
  |.c (.meptr id i j ver)=>match h id,v with
   |some (.mat v xs),.c (.int .i64 n)=>bif Nat.beq v ver then .alts [(true,.undef,[(id,.mat v (xs.set i ((xs.getD i []).set j n)))])] else .stuck
   |_,_=>.stuck
  |_=>.stuck) else .stuck
def D3 (P:Program)(s:TypeId)(a:zO)(f:Nat):qQ:=match P.underlying s with
 |some (.struct fs)=>match fs[f]? with
  | some fd => bif Nat.beq (P.cellsOf fd.type) 0 then .stuck else (match a with
   |.c (.ptr id off)=>.one (.c (.ptr id (off+fd.offset)))
   |.c (.eptr id i off)=>.one (.c (.eptr id i (off+fd.offset)))
   |.c (.fptr sh t x off)=>.one (.c (.fptr sh t x (off+fd.offset)))
   |_=>.stuck)
  |none=>.stuck
 |_=>.stuck
def pO (P:Program)(h:Hp)(t:TypeId)(x i:zO):qQ:=match P.underlying t,x,i with
 |some (.slice e),.c v,.c (.int _ i)=>match v with
  |.fsl sh ty xs=>bif Nat.beq (P.cellsOf e) ty.size then .when (zC i xs.length) (.c (.fptr sh ty (xs.getD i.toNat ty.dflt) 0)) else .stuck
  |.osl id r=>match h id with
   | some (.arr _ ty xs) => bif Nat.beq (P.cellsOf e) ty.size then (match r with
    |none=>.when (zC i xs.length) (.c (.eptr id i.toNat 0))
    |some (lo,n)=>.when (zC i n) (.c (.eptr id (lo+i.toNat) 0))) else .stuck
   | some (.mat _ xs) => bif Nat.beq (P.cellsOf e) 1 then (match r with
    |none=>.when (zC i xs.length) (.c (.mptr id i.toNat))
    |some _=>.stuck) else .stuck
   | some (.pmat _ _ n) => bif Nat.beq (P.cellsOf e) 1 then (match r with
    |none=>.when (zC i n) (.c (.mptr id i.toNat))
    |some _=>.stuck) else .stuck
   |_=>.stuck
  | .mrow id j ver => bif Nat.beq (P.cellsOf e) 1 then (match h id with
   |some (.mat v xs)=>bif Nat.beq v ver then .when (zC i (xs.getD j []).length) (.c (.meptr id j i.toNat ver)) else .stuck
   |_=>.stuck) else .stuck
  |_=>.stuck
 |some (.array n e),.c (.ptr id off),.c (.int _ i)=>bif Nat.beq (P.cellsOf e) 0 then .stuck else .alts (pL i (fun j=>.ptr id (off+j*P.cellsOf e)) 0 n)
 |some (.array n e),.c (.eptr id q off),.c (.int _ i)=>bif Nat.beq (P.cellsOf e) 0 then .stuck else .alts (pL i (fun j=>.eptr id q (off+j*P.cellsOf e)) 0 n)
 |some (.array n e),.c (.fptr sh t x off),.c (.int _ i)=>bif Nat.beq (P.cellsOf e) 0 then .stuck else .alts (pL i (fun j=>.fptr sh t x (off+j*P.cellsOf e)) 0 n)
 |_,_,_=>.stuck
def D4 (P:Program)(t:TypeId)(x i:zO):qQ:=match P.underlying t,x,i with
 |some (.array n e),.agg cs,.c (.int _ i)=>bif Nat.beq (P.cellsOf e) 1&&(match vI P e with|some false=>true|_=>false)&&Nat.beq cs.length n
   then .alts (pL i (fun j=>cs.getD j .undef) 0 n) else .stuck
 |_,_,_=>.stuck
def tS (s:ByteArray):List Int:=s.data.toList.map fun b=>(b.toNat:Int)
def D5 (P:Program)(t:TypeId)(s:ByteArray)(i:zO):qQ:=match P.underlying t,i with
 |some .string,.c (.int _ n)=>.when (zC n (tS s).length) (.c (.int .u8 ((tS s).getD n.toNat 0)))
 |_,_=>.stuck
def D6 (P:Program)(s:TypeId)(x:zO)(f:Nat):qQ:=match P.underlying s,x with
 |some (.struct fs),.agg cs=>match fs[f]? with
  |some fd=>match eO cs fd.offset (P.cellsOf fd.type) with
   |some vs=>.ofO (iE (vI P fd.type) vs)
   |none=>.stuck
  |none=>.stuck
 |_,_=>.stuck
def tT (place:Nat→Option (Nat×Nat))(cells:List zN):List (Nat×zO)→Option (List zN)
 |[]=>some cells
 |(i,v)::rest=>match place i,fO v with
  | some (off, size), some vs => bif Nat.beq vs.length size && Nat.ble (off + size) cells.length then (match nh cells off vs with
   |some cells=>tT place cells rest
   |none=>none) else none
  |_,_=>none
def D7 (P:Program)(t:TypeId)(parts:List (Nat×zO)):qQ:=match zeroCells P t with
 |none=>.stuck
 |some zero=>match P.underlying t with
  | some (.struct fs) => bif fs.toList.all (fun f => (P.info? f.type).isSome) then (match tT (fun i=>(fs[i]?).map fun f=>(f.offset,P.cellsOf f.type)) zero parts with
   |some cells=>.one (.agg cells)
   |none=>.stuck) else .stuck
  | some (.array _ e) => bif (P.info? e).isSome then (match tT (fun i=>some (i*P.cellsOf e,P.cellsOf e)) zero parts with
   |some cells=>.one (.agg cells)
   |none=>.stuck) else .stuck
  |_=>.stuck
def nj (h:Hp):zO→Option (List Int×qV)
 |.c (.osl jd none)=>match h jd with
  |some (.arr true (.int .i64) ys)=>some (ys,[(jd,.gone)])
  |_=>none
 |.c .nsl=>some ([],[])
 |_=>none
def nk (h:Hp)(rows:List (List Int)):List (Nat×zO)→Option (List (List Int)×qV)
 |[]=>some (rows,[])
 |(i,v)::rest=>match nj h v with
  |some (r,u)=>match nk h (rows.set i r) rest with
   |some (rows,us)=>some (rows,u++us)
   |none=>none
  |none=>none
def iG (h:Hp)(t:Ty)(xs:List t.den):List (Nat×zO)→Option (List t.den×qV)
 |[]=>some (xs,[])
 |(i,v)::rest=>match fO v with
  |some vs=>match fq h vs with
   |some (vs,u)=>match tP t vs with
    |some x=>match iG h t (xs.set i x) rest with
     |some (xs,us)=>some (xs,u++us)
     |none=>none
    |none=>none
   |none=>none
  |none=>none
def kf:List Nat→Bool
 |[]=>true
 |a::l=> !(l.any (Nat.beq a))&&kf l
def pP (P:Program)(mat:Bool)(nm:Nat)(h:Hp)(t:TypeId)(n:Nat)(parts:List (Nat×zO)):qQ:=
 match P.underlying t,h nm with
 |some (.slice e),none=>bif Nat.ble (n*P.cellsOf e) 16777216 then
   (bif mat then (match jK P e,nk h (List.replicate n []) parts with
    |some (.sl (.int .i64)),some (rows,u)=>bif kf (u.map (·.1))&&parts.all (fun p=>Nat.blt p.1 n) then .alts [(true,.c (.osl nm none),u++[(nm,.mat 0 rows)])] else .stuck
    |_,_=>.stuck)
   else (match jK P e with
    |some ty=>match iG h ty (List.replicate n ty.dflt) parts with
     |some (xs,u)=>bif parts.all (fun p=>Nat.blt p.1 n) then .alts [(true,.c (.osl nm none),u++[(nm,.arr true ty xs)])] else .stuck
     |none=>.stuck
    |none=>.stuck)) else .stuck
 |_,_=>.stuck
def pQ (P:Program)(mat:Bool)(nm:Nat)(h:Hp)(t:TypeId)(l c:zO):qQ:=
 match P.underlying t,h nm,l,c with
 |some (.slice e),none,.c (.int .i64 l),.c (.int .i64 c)=>
   let ok:=decide (0≤l)&&decide (l≤c)&&decide (c*(P.bytesOf e:Int)≤140737488355328)&&decide (c≤140737488355328)
   bif mat then (match jK P e with
    |some (.sl (.int .i64))=>.alts [(ok,.c (.osl nm none),[(nm,.mat 0 (List.replicate l.toNat []))])]
    |_=>.stuck)
   else (match jK P e with
    |some ty=>.alts [(ok,.c (.osl nm none),[(nm,.arr true ty (List.replicate l.toNat ty.dflt))])]
    |none=>.stuck)
 |_,_,_,_=>.stuck
def tU (P:Program)(t:TypeId):Bool:=match P.underlying t with
 | some (.map k e) => (match P.underlying k,(P.info? e).bind (·.zero) with
  |some (.int .i64),some (.bool false)=>true
  |_,_=>false)
 |_=>false
def pR (P:Program)(nm:Nat)(h:Hp)(t:TypeId):qQ:=
 match h nm with
 |none=>bif tU P t then .alts [(true,.c (.map nm),[(nm,.imap [])])] else .stuck
 |some _=>.stuck
def pS (P:Program)(h:Hp)(t:TypeId)(x i:zO):qQ:=
 match x,i with
 | .c (.map id), .c (.int .i64 n) => (match h id with
  |some (.imap bQ)=>bif tU P t then .one (.c (.bool ((bQ.lookup n).getD false))) else .stuck
  |_=>.stuck)
 |_,_=>.stuck
def pT (P:Program)(h:Hp)(t:TypeId)(x i v:zO):qQ:=
 match x,i,v with
 | .c (.map id), .c (.int .i64 n), .c (.bool b) => (match h id with
  |some (.imap bQ)=>bif tU P t then .alts [(true,.undef,[(id,.imap ((n,b)::bQ))])] else .stuck
  |_=>.stuck)
 |_,_,_=>.stuck
def lx (len:Nat)(lo hi:Option zO):Option (Bool×Nat×Nat):=
 match lo,hi with
 |none,none=>some (true,0,len)
 |some (.c (.int _ l)),none=>some (decide (0≤l)&&decide (l≤(len:Int)),l.toNat,len)
 |none,some (.c (.int _ u))=>some (decide (0≤u)&&decide (u≤(len:Int)),0,u.toNat)
 |some (.c (.int _ l)),some (.c (.int _ u))=>some (decide (0≤l)&&decide (l≤u)&&decide (u≤(len:Int)),l.toNat,u.toNat)
 |_,_=>none
def np:List zN→Option (List Int)
 |[]=>some []
 |.int .i64 n::l=>match np l with|some r=>some (n::r)|none=>none
 |_=>none
def D8 (len:Nat):Option (Nat×Nat)→Option zO→Nat
 |none,_=>len
 |some p,none=>p.2
 |some p,some _=>len-p.1
def pU (P:Program)(h:Hp)(t:TypeId)(x:zO)(lo hi mx:Option zO):qQ:=
 match P.underlying t,mx,x with
 | some (.slice e), none, .c (.fsl sh ty xs) => bif Nat.beq (P.cellsOf e) ty.size then (match lx xs.length lo hi with
  | some (ok, l, u) => .when ok (.c (.fsl sh ty (match lo,hi with
   |none,none=>xs
   |some _,none=>xs.drop l
   |none,some _=>xs.take u
   |some _,some _=>yC xs l (u-l))))
  |none=>.stuck) else .stuck
 |some (.slice e),none,.c (.osl id r)=>match h id with
  | some (.arr _ ty xs) => bif Nat.beq (P.cellsOf e) ty.size then (match lx (D8 xs.length r hi) lo hi with
   |some (ok,l,u)=>.when ok (.c (.osl id (some ((match r with|none=>0|some p=>p.1)+l,u-l))))
   |none=>.stuck) else .stuck
  |_=>.stuck
 |some (.slice e),some (.c (.int _ m)),.c (.osl id none)=>match h id with
  | some (.arr _ ty xs) => bif Nat.beq (P.cellsOf e) ty.size then (match lo,hi,lx xs.length lo hi with
   |some _,some _,some (ok,_,u)=>.when (ok&&decide ((u:Int)≤m)&&decide (m≤(xs.length:Int))) (.c .undef)
   |_,_,_=>.stuck) else .stuck
  |_=>.stuck
 | some (.array n e), none, .c (.ptr id off) => bif Nat.beq (P.cellsOf e) 1 then (match h id with
  |some (.box own cells)=>match lo,hi with
   |none,none=>bif Nat.ble (off+n) cells.length then .one (.c (.bsl id off n)) else .stuck
   |_,_=>match eO cells off n with
    |some vs=>match np vs,lx n lo hi with
     |some ns,some (ok,l,u)=>.alts [(ok,.c (.fsl true (.int .i64) (yC ns l (u-l))),bif own then[(id,.box false cells)] else[])]
     |_,_=>.stuck
    |none=>.stuck
  |_=>.stuck) else .stuck
 |_,_,_=>.stuck
def kg (h:Hp)(t:Ty):zN→Option (List t.den×qV)
 |.nsl=>some ([],[])
 |.fsl sh s xs=>bif sh||s.flat then(wG s t xs).map (·,[]) else none
 |.nfl sh s xs=>bif sh||s.flat then(wG s t xs).map (·,[]) else none
 |.osl id r=>match h id with
  |some (.arr _ s xs)=>(wG s t (wU xs r)).map (·,[])
  |_=>none
 |_=>none
def pV (P:Program)(mat:Bool)(nm:Nat)(h:Hp)(t:TypeId)(b x:zO):qQ:=
 match P.underlying t,h nm,b,x with
 |some (.slice e),none,.c b,.c x=>match jK P e with
  |none=>.stuck
  |some ty=>
   let room (n:Nat):Bool:=Nat.ble (n*P.bytesOf e) 140737488355328&&Nat.ble n 140737488355328
   bif mat then (match ty,b,x with
    |.sl (.int .i64),.osl id none,.osl jd none=>match h id,h jd with
     |some (.mat _ xs),some (.mat _ ys)=>bif Nat.beq id jd then .stuck else
       .alts [(room (xs.length+ys.length),.c (.osl nm none),[(id,.gone),(jd,.gone),(nm,.mat 0 (xs++ys))])]
     |_,_=>.stuck
    |_,_,_=>.stuck)
   else (match b with
    |.nsl=>match kg h ty x with
     |some (ys,u)=>.alts [(room ys.length,.c (.osl nm none),u++[(nm,.arr true ty ys)])]
     |none=>.stuck
    |.osl id r=>match h id with
     |some (.arr true s cW)=>match wG s ty (wU cW r),kg h ty x with
      | some xs, some (ys, u) => (match r with
       | some (0, _) | none => (bif (match x with | .osl jd _ => Nat.beq id jd | _ => false) then (match r,x,wG s ty cW with
         |some (0,i),.osl _ (some (j,m)),some zs=>.alts [(Nat.ble i j,.c (.osl nm (some (0,i+m))),[(id,.gone),(nm,.arr true ty (zs.take i++yC zs j m++zs.drop (i+m)))])]
         |_,_,_=>.stuck) else
         .alts [(room (xs.length+ys.length),.c (.osl nm none),u++[(id,.gone),(nm,.arr true ty (xs++ys))])])
       |_=>.stuck)
      |_,_=>.stuck
     |_=>.stuck
    |_=>.stuck)
 |_,_,_,_=>.stuck
def nq (xs:List Int):Nat→List zN→List zN
 |_,[]=>[]
 |i,.int .i64 n::cs=>.int .i64 (bif Nat.blt i xs.length then xs.getD i 0 else n)::nq xs (i+1) cs
 |i,c::cs=>c::nq xs (i+1) cs
def pW (h:Hp)(d s:zO):qQ:=match d,s with
 |.c (.bsl id off n),.c s=>match h id,(match s with|.nsl=>some ⟨.int .i64,[]⟩|s=>jM h s:Option ((t:Ty)×List t.den)) with
  |some (.box true cells),some ⟨.int .i64,ys⟩=>match eO cells off n with
   |some vs=>match np vs with
    |some _=>.alts [(true,.c (.int .i64 ((min ys.length n:Nat):Int)),[(id,.box true (cells.take off++nq ys 0 vs++cells.drop (off+n)))])]
    |none=>.stuck
   |none=>.stuck
  |_,_=>.stuck
 |_,_=>.stuck
def yv (P:Program)(h:Hp)(t:TypeId)(id lo n:Nat):qQ:=match P.underlying t,h id with
 |some (.slice e),some (.arr true s xs)=>match jK P e with
  |some ty=>bif iD ty s then .alts [(true,.undef,[(id,.arr true s (xs.take lo++List.replicate n s.dflt++xs.drop (lo+n)))])] else .stuck
  |none=>.stuck
 |_,_=>.stuck
def yw (lt:Bool):List zO→qQ
 |[.c (.int k x),.c (.int _ y)]=>.one (.c (.int k (bif lt then(bif decide (y<x) then y else x) else(bif decide (y>x) then y else x))))
 |[.c (.int k x),.c (.int _ y),.c (.int _ z)]=>
  let m (a b:Int):Int:=bif lt then(bif decide (b<a) then b else a) else(bif decide (b>a) then b else a)
  .one (.c (.int k (m (m x y) z)))
 |_=>.stuck
abbrev yx:=Nat→Nat→Nat→List zO→Hp→qQ
inductive CS where
 |int (k:IntKind)|bool|dat (sh:Bool) (t:Ty)|lit (v:zN)
inductive VS where
 |c (x:CS)|agg (l:List CS)
inductive OS where
 |box (own:Bool) (l:List CS)|robox (l:List CS)|arr (own:Bool) (t:Ty)|mat|pmat|imap
abbrev SL:List CS→Type
 |[]=>Unit
 |.int _::l=>Int×SL l
 |.bool::l=>Bool×SL l
 |.dat _ t::l=>List t.den×SL l
 |.lit _::l=>SL l
def VS.cells:VS→List CS
 |.c x=>[x]
 |.agg l=>l
abbrev SV:List (Nat×VS)→Type
 |[]=>Unit
 |s::l=>SL s.2.cells×SV l
abbrev OS.den:OS→Type
 |.box _ l=>SL l
 |.robox l=>SL l
 |.arr _ t=>List t.den
 |.mat=>List (List Int)
 |.pmat=>List (List Int)×Nat
 |.imap=>List (Int×Bool)
abbrev OL:List OS→Type
 |[]=>Unit
 |o::l=>o.den×OL l
structure zF where
 slots:List (Nat×VS)
 objs:List OS
 grow:List (Nat×Option Nat×Ty×Bool)
abbrev zF.den (S:zF):Type:=SV S.slots×OL S.objs
def yy:List Nat→List Nat→Bool
 |[],[]=>true
 |a::l,b::m=>Nat.beq a b&&yy l m
 |_,_=>false
def D9:zN→zN→Bool
 |.undef,_=>true
 |.nsl,.nsl|.nilp,.nilp|.nilf,.nilf|.nilm,.nilm=>true
 |.osl a none,.osl b none=>Nat.beq a b
 |.bsl a i n,.bsl b j m=>Nat.beq a b&&Nat.beq i j&&Nat.beq n m
 |.ptr a i,.ptr b j=>Nat.beq a b&&Nat.beq i j
 |.fn f c,.fn g d=>Nat.beq f g&&yy c d
 |.map a,.map b=>Nat.beq a b
 |_,_=>false
def eP:(l:List CS)→List zN→Option (SL l)
 |[],[]=>some ()
 |.int k::l,.int j n::vs=>bif vY j k then(match eP l vs with|some d=>some (n,d)|none=>none) else none
 |.bool::l,.bool b::vs=>match eP l vs with|some d=>some (b,d)|none=>none
 | .dat sh t :: l, .fsl tV s xs :: vs => bif tV || !sh then (match wG s t xs,eP l vs with
  |some xs,some d=>some (xs,d)
  |_,_=>none) else none
 |.dat _ _::l,.nsl::vs=>match eP l vs with|some d=>some ([],d)|none=>none
 |.lit c::l,v::vs=>bif D9 c v then eP l vs else none
 |_,_=>none
def Ea (v:VS)(a:zO):Option (SL v.cells):=match v,a with
 |.c x,.c y=>eP [x] [y]
 |.agg l,.agg vs=>eP l vs
 |_,_=>none
def yz (o:OS)(x:Obj):Option o.den:=match o,x with
 |.box own l,.box ft cells=>bif own==ft then eP l cells else none
 |.robox l,.robox cells=>eP l cells
 |.arr own t,.arr ft s xs=>bif own==ft then wG s t xs else none
 |.mat,.mat _ xs=>some xs
 |.pmat,.pmat _ xs n=>some (xs,n)
 |.imap,.imap bQ=>some bQ
 |_,_=>none
def gF:(l:List CS)→SL l→List zN
 |[],_=>[]
 |.int k::l,d=>.int k d.1::gF l d.2
 |.bool::l,d=>.bool d.1::gF l d.2
 |.dat sh t::l,d=>.fsl sh t d.1::gF l d.2
 |.lit c::l,d=>c::gF l d
def Eb (v:VS)(d:SL v.cells):zO:=match v,d with
 |.c x,d=>match gF [x] d with|c::_=>.c c|[]=>.undef
 |.agg l,d=>.agg (gF l d)
def y7 (o:OS)(d:o.den):Obj:=match o,d with
 |.box own l,d=>.box own (gF l d)
 |.robox l,d=>.robox (gF l d)
 |.arr own t,xs=>.arr own t xs
 |.mat,xs=>.mat 0 xs
 |.pmat,d=>.pmat 0 d.1 d.2
 |.imap,bQ=>.imap bQ
def pX:(l:List (Nat×VS))→SV l→List (Nat×zO)
 |[],_=>[]
 |s::l,d=>(s.1,Eb s.2 d.1)::pX l d.2
def kh:(l:List OS)→OL l→List Obj
 |[],_=>[]
 |o::l,d=>y7 o d.1::kh l d.2
def zL (base:Nat)(S:zF)(d:S.den):St:=
  { t:=fun n=>match(pX S.slots d.1).lookup n with|some v=>v|none=>.undef,
    h:=fun n=>bif Nat.ble base n then(kh S.objs d.2)[n-base]? else none}
inductive Ex where
 |normal|ret|exit (id:Nat)
def Ec:Ex→Ex→Bool
 |.normal,.normal|.ret,.ret=>true
 |.exit a,.exit b=>Nat.beq a b
 |_,_=>false
abbrev ly:List (Ex×zF)→Type
 |[]=>Empty
 |[p]=>p.2.den
 |p::q::l=>p.2.den⊕ly (q::l)
abbrev ki:List zF→Type
 |[]=>Empty
 |[S]=>S.den
 |S::T::l=>S.den⊕ki (T::l)
structure qB where
 ins:List zF
 outs:List (Ex×zF)
 X:Type
 sum:Nat→ki ins→Option X
 elim:Nat→X→(R:Type)→(Ex→St→Option R)→Option R
structure qA where
 mats:List Nat
 loops:List (Nat×qB)
 unr:List (Nat×Nat)
 wise:Bool
structure wW where
 P:Program
 eqT:TypeId→Bool
 sums:yx
def iH (pre:Nat):Option Nat→Nat
 |some d=>pre+100*(d+1)
 |none=>pre
def lz:zO→Option Nat
 |.c (.ptr id 0)=>some id
 |_=>none
def Ed (P:Program)(mat:Bool)(nm:Nat)(h:Hp)(b:Builtin)(ts:Array TypeId)(l:List zO):qQ:=match b with
 |.len=>match l with
  |[.c v]=>match(ts[0]?).bind P.underlying with
   |some (.slice _)=>match pJ h v with
    |some n=>.one (.c (.int .i64 (n:Int)))
    |none=>.stuck
   |_=>.stuck
  |_=>.stuck
 |.append=>match l with
  |[b,x]=>match ts.toList with
   |[t,u]=>bif Nat.beq t u then pV P mat nm h t b x else .stuck
   |_=>.stuck
  |_=>.stuck
 |.copy=>match l with
  |[d,s]=>match(ts[0]?).bind P.underlying with
   |some (.slice e)=>bif Nat.beq (P.cellsOf e) 1 then pW h d s else .stuck
   |_=>.stuck
  |_=>.stuck
 |.clear=>match l with
  |[.c (.osl id (some (lo,n)))]=>match ts[0]? with
   |some t=>yv P h t id lo n
   |none=>.stuck
  |_=>.stuck
 |.max=>yw false l
 |.min=>yw true l
 |_=>.stuck
def dL (E:wW)(A:qA)(k pre:Nat)(o:Oper)(ev:Operand→zO)(h:Hp):qQ:=
 let nm:=iH pre o.dst;let mat:=match o.dst with|some d=>A.mats.any (Nat.beq d)|none=>false
 match o.op with
 |.move x|.assign x=>.one (ev x)
 |.pick c a b=>match ev c with
  |.c (.bool c)=>match ev a,ev b with
   |.c (.bool a),.c (.bool b)=>.one (.c (.bool (bif c then a else b)))
   |va,vb=>.alts [(c,va,[]),(true,vb,[])]
  |_=>.stuck
 |.alloc t=>match h nm,zeroCells E.P t with
  |none,some zs=>.alts [(true,.c (.ptr nm 0),[(nm,.box true zs)])]
  |_,_=>.stuck
 |.box t x=>match h nm,fO (ev x) with
  |none,some vs=>.alts [(true,.c (.ptr nm 0),[(nm,.box (!mat) vs)])]
  |_,_=>.stuck
 |.build t parts=>D7 E.P t (parts.toList.map fun p=>(p.1,ev p.2))
 |.buildSlice t n parts=>pP E.P mat nm h t n (parts.toList.map fun p=>(p.1,ev p.2))
 |.load t a=>pM E.P h t (ev a)
 |.store t a v=>pN E.P h t (ev a) (ev v)
 |.nilCheck x=>match ev x with
  |.c (.ptr a b)=>.one (.c (.ptr a b))
  |.c (.eptr a b c)=>.one (.c (.eptr a b c))
  |.c (.fptr s t x off)=>.one (.c (.fptr s t x off))
  |.c (.fn f c)=>.one (.c (.fn f c))
  |_=>.stuck
 |.binOp op t x y _=>
  bif DY y && DX op then (match E.P.underlying t,ev x with
   |some d,.c v=>match DW d y v with
    |some b=>.one (.c (.bool (iF op b)))
    |none=>match d,y,pK h v with
     |.slice _,.const (.slice none 0 0),some n=>.when (Nat.blt 0 n) (.c (.bool (iF op false)))
     |_,_,_=>.stuck
   |_,_=>.stuck)
  else DZ E.P E.eqT op t x y (ev x) (ev y)
 |.unOp op _ x=>D2 op (ev x)
 |.convert s d x=>match E.P.underlying s,E.P.underlying d,ev x with
  |some (.int _),some (.int k),.c (.int _ n)=>.one (.c (.int k (k.wrap n)))
  |some (.slice e),some .string,.c c=>match E.P.underlying e,pI h c with
   |some (.int .u8),some xs=>.one (.c (.str xs))
   |_,_=>.stuck
  |_,_,_=>.stuck
 | .makeFunc (.func f) first captured => bif Nat.beq first.size 0 then (match captured.toList.mapM (fun x=>lz (ev x)) with
   |some ids=>.one (.c (.fn f ids))
   |none=>.stuck) else .stuck
 |.makeSlice t l c=>pQ E.P mat nm h t (ev l) (ev c)
 |.makeMap t none=>pR E.P nm h t
 |.lookup t x i false=>pS E.P h t (ev x) (ev i)
 |.mapUpdate t x i y=>pT E.P h t (ev x) (ev i) (ev y)
 |.slice t x lo hi mx=>pU E.P h t (ev x) (lo.map ev) (hi.map ev) (mx.map ev)
 |.fieldAddr t x f=>D3 E.P t (ev x) f
 |.field t x f=>D6 E.P t (ev x) f
 |.indexAddr t x i=>pO E.P h t (ev x) (ev i)
 |.index t x i=>match x with
  |.const (.string s)=>D5 E.P t s (ev i)
  |_=>D4 E.P t (ev x) (ev i)
 |.extract t i=>match ev t with
  |.tup xs=>match xs[i]? with
   |some (g,vs)=>.ofO (iE (some g) vs)
   |none=>.stuck
  |_=>.stuck
 |.call c=>match c.callee with
  |.builtin b=>Ed E.P mat nm h b c.argTypes (c.args.toList.map ev)
  |.value f=>match ev f with
   |.c (.fn f cap)=>E.sums k nm f (c.args.toList.map ev++cap.map fun id=>.c (.ptr id 0)) h
   |_=>.stuck
  |_=>.stuck
 |_=>.stuck
structure pY where
 i:Nat
 nm:Nat
 upd:List Nat
 refs:Option (List Nat)
def qX:zN→List Nat
 |.osl id _|.bsl id _ _|.ptr id _|.eptr id _ _|.mrow id _ _|.mptr id _|.meptr id _ _ _|.map id=>[id]
 |.fn _ cap=>cap
 |_=>[]
def qL:zO→List Nat
 |.c v=>qX v
 |.agg vs=>vs.flatMap qX
 |.tup xs=>xs.flatMap fun x=>x.2.flatMap qX
 |_=>[]
def yO:zO→Bool
 |.c (.ptr _ _)|.c (.map _)|.c (.eptr _ _ _)|.c (.mptr _ _)|.c (.meptr _ _ _ _)|.c (.bsl _ _ _)=>true
 |.c (.fn _ cap)=> !cap.isEmpty
 |_=>false
def Ee:Op→Bool
 |.call {callee:=.value _,..}=>true
 |_=>false
def NS:Op→Bool
 |.move _|.assign _|.nilCheck _|.fieldAddr _ _ _|.field _ _ _|.extract _ _=>true
 |_=>false
def iI (ev:Operand→zO)(o:Oper):Option (List Nat):=bif NS o.op then some [] else
 let vals:=o.op.operands.toList.map ev
 bif Ee o.op&&vals.any yO then none else some (vals.flatMap qL)
def y8 (a:List Nat):Option (List Nat)→Bool
 |none=> !a.isEmpty
 |some b=>a.any fun x=>b.any (Nat.beq x)
def fu (nm a:Nat):Bool:=Nat.ble nm a&&Nat.blt a (nm+100)
def kj (x y:pY):Bool:=y8 x.upd y.refs||y8 y.upd x.refs||x.upd.any (fu y.nm)||y.upd.any (fu x.nm)||x.upd.any fun a=>y.upd.any (Nat.beq a)
def fw (b:Array Nat)(i j:Nat):Bool:=(b.getD j 0).testBit i
def kk (ops:Array Oper)(i j:Nat):Bool:=match ops[i]?,ops[j]? with
 |some x,some y=>x.apart ops y
 |_,_=>false
def tW (ops:Array Oper):Bool:=ops.toList.zipIdx.all fun p=>p.1.after.toList.all fun e=> !Region.binds .any e||Nat.blt e.on p.2
def lA (na nt:Nat):Option Nat→Bool
 |some d=>Nat.ble na d&&Nat.blt d nt
 |none=>true
def vN (u:qV):List Nat:=u.map (·.1)
section
variable (E:wW) (A:qA) (k pre na nt:Nat) {R:Type}
def y9 (o:Oper)(st:St)(K:zO→qV→St→Option R):Option R:=
 bif lA na nt o.dst then
  (dL E A k pre o st.ev st.h).elim fun v u=>K v u {t:=wT st.t o.dst v,h:=zX st.h u}
 else none
def za (ops:Array Oper)(j:Nat):Option Nat:=(ops[j]?).bind (·.dst)
def zb (ops:Array Oper)(o:Oper)(st:St)(yes no:St→Option R):Option R:=match o.guard with
 |none=>yes st
 |some (j,want)=>match za ops j with
  |none=>none
  |some s=>match st.t s with
   |.c (.bool b)=>bif b then(let st:={st with t:=vG st.t s (.c (.bool true))};bif want then yes st else no st)
     else(let st:={st with t:=vG st.t s (.c (.bool false))};bif want then no st else yes st)
   |.skp=>no st
   |_=>none
def zc (ops:Array Oper):List (Nat×Oper)→St→(St→Option R)→Option R
 |[],st,K=>K st
 |(_,o)::rest,st,K=>zb ops o st
   (fun st=>y9 E A k pre na nt o st fun _ _ st=>zc ops rest st K)
   (fun st=>bif lA na nt o.dst then zc ops rest {st with t:=wT st.t o.dst .skp} K else none)
def pZ (ops:Array Oper)(b:Array Nat):List (Nat×Oper)→List pY→St→(St→Option R)→Option R
 |[],_,st,K=>K st
 |(i,o)::rest,done,st,K=>
  bif done.all fun d=>fw b d.i i||kk ops d.i i then zb ops o st
   (fun st=>let r:=iI st.ev o;y9 E A k pre na nt o st fun _ u st=>
    let x:pY:=⟨i,iH pre o.dst,vN u,r⟩
    bif done.all fun d=>fw b d.i i|| !kj d x then pZ ops b rest (x::done) st K else none)
   (fun st=>bif lA na nt o.dst then pZ ops b rest (⟨i,iH pre o.dst,[],some []⟩::done) {st with t:=wT st.t o.dst .skp} K else none)
  else none
def yJa:Option Obj→List Nat
 |some (.box _ cells)=>cells.flatMap qX
 |some (.robox cells)=>cells.flatMap qX
 |_=>[]
def qa (h:Hp):Nat→List Nat→List Nat→List Nat
 |0,_,seen=>seen
 |_,[],seen=>seen
 |n+1,id::todo,seen=>bif seen.any (Nat.beq id) then qa h n todo seen else qa h n (yJa (h id)++todo) (seen++[id])
def vR (id:Nat):List Nat→Nat→Option Nat
 |[],_=>none
 |a::l,i=>bif Nat.beq a id then some i else vR id l (i+1)
def lB (h:Hp)(ρ:Nat→Option Nat):zN→zN
 |.osl id r=>match ρ id with|some i=>.osl i r|none=>.undef
 |.bsl id a b=>match ρ id with|some i=>.bsl i a b|none=>.undef
 |.ptr id a=>match ρ id with|some i=>.ptr i a|none=>.undef
 |.eptr id a b=>match ρ id with|some i=>.eptr i a b|none=>.undef
 |.mrow id a ver=>match ρ id,h id with
  |some i,some (.mat v _)=>bif Nat.beq v ver then .mrow i a 0 else .undef
  |_,_=>.undef
 |.mptr id a=>match ρ id with|some i=>.mptr i a|none=>.undef
 |.meptr id a b ver=>match ρ id,h id with
  |some i,some (.mat v _)=>bif Nat.beq v ver then .meptr i a b 0 else .undef
  |_,_=>.undef
 |.map id=>match ρ id with|some i=>.map i|none=>.undef
 |.fn f cap=>match cap.mapM ρ with|some c=>.fn f c|none=>.undef
 |v=>v
def NT (h:Hp)(ρ:Nat→Option Nat):zO→zO
 |.c v=>.c (lB h ρ v)
 |.agg vs=>.agg (vs.map (lB h ρ))
 |.tup xs=>.tup (xs.map fun x=>(x.1,x.2.map (lB h ρ)))
 |v=>v
def lC (h:Hp)(ρ:Nat→Option Nat):Obj→Obj
 |.box own cells=>.box own (cells.map (lB h ρ))
 |.robox cells=>.robox (cells.map (lB h ρ))
 |.mat _ xs=>.mat 0 xs
 |.pmat _ xs n=>.pmat 0 xs n
 |o=>o
def wI:Nat:=1000000
def Ef (st:St)(s:Nat):Option Nat→St
 |none=>match st.t s with
  |.c c=>match fQ st.h c with
   |some (c',u)=>{t:=vG st.t s (.c c'),h:=zX st.h u}
   |none=>st
  |_=>st
 |some j=>match st.t s with
  |.c (.ptr id 0)=>match st.h id with
   |some (.box true cells)=>match cells[j]? with
    |some c=>match fQ st.h c with
     |some (c',u)=>{st with h:=qH (zX st.h u) id (.box true (cells.set j c'))}
     |none=>st
    |none=>st
   |_=>st
  |.agg cells=>match cells[j]? with
   |some c=>match fQ st.h c with
    |some (c',u)=>{t:=vG st.t s (.agg (cells.set j c')),h:=zX st.h u}
    |none=>st
   |none=>st
  |_=>st
def NU:Ty→Bool
 |.bool=>true
 |_=>false
def Eg (st:St)(nm:Nat)(g:Nat×Option Nat×Ty×Bool):St:=bif g.2.2.2&&NU g.2.2.1 then Ef st g.1 g.2.1 else match g.2.1 with
 |none=>match st.t g.1 with
  |.c .nsl=>{t:=vG st.t g.1 (.c (.osl nm none)),h:=qH st.h nm (bif g.2.2.2 then .mat 0 [] else .arr true g.2.2.1 [])}
  |_=>st
 |some j=>match st.t g.1 with
  |.c (.ptr id 0)=>match st.h id with
   |some (.box true cells)=>match cells[j]? with
    |some .nsl=>{st with h:=qH (qH st.h nm (bif g.2.2.2 then .mat 0 [] else .arr true g.2.2.1 [])) id (.box true (cells.set j (.osl nm none)))}
    |_=>st
   |_=>st
  |_=>st
def zd (st:St):Nat→List (Nat×Option Nat×Ty×Bool)→Option St
 |_,[]=>some st
 |nm,g::l=>match st.h nm with
  |none=>zd (Eg st nm g) (nm+1) l
  |some _=>none
def nr (base : Nat) (h : Hp) (ids : List Nat) : Hp := fun n => bif Nat.ble base n then (match ids[n-base]? with
 |some id=>(h id).map (lC h fun i=>(vR i ids 0).map (base+·))
 |none=>none) else none
def ze (f:zO→zO)(t:Nat→zO):(l:List (Nat×VS))→Option (SV l)
 |[]=>some ()
 |s::l=>match Ea s.2 (f (t s.1)),ze f t l with
  |some d,some ds=>some (d,ds)
  |_,_=>none
def zg (f:Obj→Obj)(h:Hp):(l:List OS)→List Nat→Option (OL l)
 |[],[]=>some ()
 |o::l,id::ids=>match(h id).bind fun x=>yz o (f x),zg f h l ids with
  |some d,some ds=>some (d,ds)
  |_,_=>none
 |_,_=>none
def Eh (g0 base n:Nat)(S:zF)(st:St):Option S.den:=match zd st g0 S.grow with
 |none=>none
 |some st=>
  let ids:=qa st.h n (S.slots.flatMap fun s=>qL (st.t s.1)) []
  match ze (NT st.h fun i=>(vR i ids 0).map (base+·)) st.t S.slots,zg (lC st.h fun i=>(vR i ids 0).map (base+·)) st.h S.objs ids with
  |some a,some b=>some (a,b)
  |_,_=>none
def tX (S:zF)(st:St):Option S.den:=Eh (pre+500000) (pre+wI) 400 S st
def qb:(l:List zF)→St→Option (ki l)
 |[],_=>none
 |[S],st=>tX pre S st
 |S::T::l,st=>match tX pre S st with
  |some d=>some (.inl d)
  |none=>match qb (T::l) st with
   |some d=>some (.inr d)
   |none=>none
def zh (base:Nat):(l:List zF)→ki l→(St→Option R)→Option R
 |[],_,_=>none
 |[S],d,K=>K (zL base S d)
 |S::T::l,d,K=>match d with
  |.inl d=>K (zL base S d)
  |.inr d=>zh base (T::l) d K
def tY:(l:List (Ex×zF))→Ex→St→Option (ly l)
 |[],_,_=>none
 |[p],e,st=>bif Ec p.1 e then tX pre p.2 st else none
 |p::q::l,e,st=>match(bif Ec p.1 e then tX pre p.2 st else none) with
  |some d=>some (.inl d)
  |none=>match tY (q::l) e st with
   |some d=>some (.inr d)
   |none=>none
def qc (base:Nat):(l:List (Ex×zF))→ly l→(Ex→St→Option R)→Option R
 |[],_,_=>none
 |[p],d,K=>K p.1 (zL base p.2 d)
 |p::q::l,d,K=>match d with
  |.inl d=>K p.1 (zL base p.2 d)
  |.inr d=>qc base (q::l) d K
def NV ins outs {X:Type}(eQ:ly outs→X)(again:ki ins→Option X):Ex→St→Option X
 |.normal,st=>match qb pre ins st with
  |some d=>again d
  |none=>none
 |e,st=>match tY pre outs e st with
  |some o=>some (eQ o)
  |none=>none
def nu:Code→Option Nat
 |.region id _ _=>some id
 |.seq a b=>match nu a with|some i=>some i|none=>nu b
 |.cond _ a b=>match nu a with|some i=>some i|none=>nu b
 |.block _ b|.loop b|.scope b=>nu b
 |_=>none
def lD (b:Code):Option qB:=match nu b with
 |some i=>A.loops.lookup i
 |none=>none
def yDf (b:Code):Nat:=match nu b with
 |some i=>(A.unr.lookup i).getD 0
 |none=>0
def Ei (b:St→(Ex→St→Option R)→Option R):Nat→St→(Ex→St→Option R)→Option R
 |0,_,_=>none
 |n+1,st,K=>b st fun e st=>match e with
  |.normal=>Ei b n st K
  |e=>K e st
def zi (c:Operand)(b:Bool)(st:St):St:=match A.wise,c with
 |true,.tmp s=>{st with t:=vG st.t s (.c (.bool b))}
 |_,_=>st
def jJ:Code→St→(Ex→St→Option R)→Option R
 |.skip,st,K=>K .normal st
 |.region _ ops draw,st,K=>bif draw
   then bif !tW ops then none else pZ E A k pre na nt ops (Region.before ops) (ops.toList.zipIdx.map fun p=>(p.2,p.1)) [] st (K .normal)
   else zc E A k pre na nt ops (ops.toList.zipIdx.map fun p=>(p.2,p.1)) st (K .normal)
 |.seq a b,st,K=>jJ a st fun e st=>match e with
  |.normal=>jJ b st K
  |e=>K e st
 |.cond c a b,st,K=>match st.ev c with
  |.c (.bool t)=>bif t then jJ a (zi A c true st) K else jJ b (zi A c false st) K
  |_=>none
 |.block id b,st,K=>jJ b st fun e st=>match e with
  |.exit i=>bif Nat.beq i id then K .normal st else K (.exit i) st
  |e=>K e st
 |.loop b,st,K=>match lD A b with
  |none=>Ei (jJ b) (yDf A b) st K
  |some L=>match qb pre L.ins st with
   |none=>none
   |some d=>(L.sum k d).bind fun x=>L.elim (pre+wI) x R K
 |.exit id,st,K=>K (.exit id) st
 |.ret,st,K=>K .ret st
 |_,_,_=>none
def lE (st:St):ResultVar→Option zO
 |.tmp t=>some (st.t t)
 |.cell a t=>match st.t a with
  |.c (.ptr id off)=>match st.h id with
   |some (.box _ cells)=>match eO cells off (E.P.cellsOf t) with
    |some vs=>iE (vI E.P t) vs
    |none=>none
   |_=>none
  |_=>none
def qd:zO→Option (Bool×List zN)
 |.c v=>some (false,[v])
 |.agg vs=>some (true,vs)
 |_=>none
def zj (fn:Func)(st:St):Option zO:=match fn.results.toList with
 |[]=>some (.tup [])
 |[r]=>lE E st r
 |rs=>match rs.mapM (fun r=>(lE E st r).bind qd) with
  |some xs=>some (.tup xs)
  |none=>none
def zk (args:List zO):Nat→zO:=fun n=>args.getD n .skp
def dV (fn:Func)(args:List zO)(h:Hp)(K:zO→St→Option R):Option R:=match fn.body with
 |none=>none
 |some code=>bif Nat.ble args.length fn.ntmps then jJ E A k pre na fn.ntmps code {t:=zk args,h:=h} fun e st=>match e with
  |.exit _=>none
  |_=>match zj E fn st with
   |some v=>K v st
   |none=>none
  else none
end
def _root_.Go.Value.one1:Value→Bool
 |.agg _|.tuple _=>false
 |_=>true
def qO (H:Array Go.Obj)(B o:Nat):Option Value:=match H[B]? with
 |some (.cells c _ _)=>c[o]?
 |_=>none
def qE (H:Array Go.Obj)(B:Nat):Nat:=match H[B]? with
 |some (.cells c _ _)=>c.size
 |_=>0
theorem kl (w:World) B o:w.cell? ⟨B,o,none⟩=qO w.heap B o:=by
 rfl
theorem Ej {H H' B}(h:H'[B]? =H[B]?) o:qO H' B o=qO H B o:=by unfold qO;rw[h]
theorem qe {H H' B}(h:H'[B]? =H[B]?):qE H' B=qE H B:=by unfold qE;rw[h]
def zT (H:Array Go.Obj)(F:Nat→Prop):(t:Ty)→t.den→(Nat→Option Value)→Prop
 |.int k,n,rd=>rd 0=some (.int k n)
 |.bool,b,rd=>rd 0=some (.bool b)
 |.sl t,xs,rd=>∃A n c,rd 0=some (.slice A n c)∧n=xs.length∧n≤c∧
   ((xs=[]∧(A=none→c=0))∨∃B o,A=some ⟨B,o,none⟩∧F B∧∀i (h:i<xs.length),zT H F t xs[i] (fun j=>qO H B (o+i*t.size+j)))
 |.pair a b,p,rd=>zT H F a p.1 rd∧zT H F b p.2 (fun j=>rd (j+a.size))
theorem qS {H H' F F'}(hF:∀b,F b→F' b)(hs:∀b,F b→H'[b]? =H[b]?):
  ∀t x rd cN,(∀j,j<t.size→cN j=rd j)→zT H F t x rd→zT H' F' t x cN
 |.int k,n,rd,cN,hr,h
 |.bool,n,rd,cN,hr,h=>by simp[zT] at h⊢;rw[hr 0 (by simp[Ty.size])];exact h
 |.sl t,xs,rd,cN,hr,h=>by
  obtain⟨A,n,c,h1,h2,h3,h4⟩:=h;refine⟨A,n,c,by rw[hr 0 (by simp[Ty.size])];exact h1,h2,h3,?_⟩;rcases h4 with h4|⟨B,o,e,hB,h4⟩
  ·simp_all
  ·exact .inr ⟨B,o,e,hF B hB,fun i hi=>qS hF hs t _ _ _ (fun j _=>Ej (hs B hB) _) (h4 i hi)⟩
 |.pair a b,p,rd,cN,hr,h=>by
  exact⟨qS hF hs a _ _ _ (fun j hj=>hr j (by simp[Ty.size];omega)) h.1,
   qS hF hs b _ _ _ (fun j hj=>hr _ (by simp[Ty.size];omega)) h.2⟩
theorem Ty.size_pos:∀t:Ty,0<t.size
 |.int _|.bool|.sl _=>by simp[Ty.size]
 |.pair a b=>by have:=Ty.size_pos a;simp[Ty.size];omega
structure zS where
 blk:Option Nat
 len:Nat
 sz:Nat
 ver:Nat
 rows:List (Option Nat×Nat)
def zS.fp (C:zS):List Nat:=C.blk.toList++C.rows.filterMap (·.1)
structure zS.le (C C':zS):Prop where
 blk:C'.blk=C.blk
 len:C'.len=C.len
 sz:C'.sz=C.sz
 ver:C.ver≤C'.ver
 rows:C'.ver=C.ver→C'.rows=C.rows
theorem zS.le_refl (C:zS):C.le C:=⟨rfl,rfl,rfl,by simp,by simp⟩
theorem zS.le_trans {A B C:zS}(h:A.le B)(k:B.le C):A.le C:=
 ⟨k.blk.trans h.blk,k.len.trans h.len,k.sz.trans h.sz,Nat.le_trans h.ver k.ver,fun e=>by
  have:=h.ver;have:=k.ver;rw[k.rows (by omega),h.rows (by omega)]⟩
structure zE where
 κ:Nat→Option zS
 F:Nat→Prop
 G:Nat→Prop
 h:Hp
 H:Array Go.Obj
def zG {α β:Type}(R:α→β→Prop):List α→List β→Prop
 |[],[]=>True
 |a::l,b::m=>R a b∧zG R l m
 |_,_=>False
theorem zG.mono {α β R S}(h:∀a b,R a b→S a b):∀{l:List α} {m:List β},zG R l m→zG S l m
 |[],[],_=>trivial
 |_::_,_::_,hh=>⟨h _ _ hh.1,zG.mono h hh.2⟩
theorem zG.length {α β R}:∀{l:List α} {m:List β},zG R l m→l.length=m.length
 |[],[],_=>rfl
 |_::_,_::_,hh=>by simp[zG.length hh.2]
theorem zG.get {α β R}:∀{l:List α} {m:List β},zG R l m→∀i h (h':i<m.length),R l[i] m[i]
 |_::_,_::_,hh,0,_,_=>hh.1
 |_::_,_::_,hh,i+1,h,h'=>zG.get hh.2 i (by simp_all) (by simp_all)
theorem zG.of_get {α β R}:∀{l:List α} {m:List β},l.length=m.length→(∀i h (h':i<m.length),R l[i] m[i])→zG R l m
 |[],[],_,_=>trivial
 |a::l,b::m,hl,h=>⟨h 0 (by simp) (by simp),zG.of_get (by simp_all) fun i h1 h2=>h (i+1) (by simp_all) (by simp_all)⟩
theorem zG.append {α β R}:∀{l l':List α} {m m':List β},zG R l m→zG R l' m'→zG R (l++l') (m++m')
 |[],_,[],_,_,k=>k
 |_::_,_,_::_,_,h,k=>⟨h.1,zG.append h.2 k⟩
theorem zG.drop {α β R}:∀n {l:List α} {m:List β},zG R l m→zG R (l.drop n) (m.drop n)
 |0,_,_,h=>h
 |n+1,[],[],_=>trivial
 |n+1,_::_,_::_,h=>zG.drop n h.2
theorem zG.take {α β R}:∀n {l:List α} {m:List β},zG R l m→zG R (l.take n) (m.take n)
 |0,_,_,_=>by simp[zG]
 |n+1,[],[],_=>trivial
 |n+1,_::_,_::_,h=>⟨h.1,zG.take n h.2⟩
theorem zG.set {α β R}{a:α}{b:β}(qf:R a b):∀n {l m},zG R l m→zG R (l.set n a) (m.set n b)
 |_,[],[],_=>trivial
 |0,_::_,_::_,h=>⟨qf,h.2⟩
 |n+1,_::_,_::_,h=>⟨h.1,zG.set qf n h.2⟩
def yY (H:Array Go.Obj)(C:zS)(lo n:Nat)(v:Value):Prop:=∃A c,v=.slice A n c∧match C.blk with
 |none=>A=none∧n=0∧c=0
 |some B=>n≤c∧∃a,A=some ⟨B,a,none⟩∧(c=0∨a=lo*C.sz)∧(lo+c)*C.sz≤qE H B
def eR (H:Array Go.Obj)(rb:Option Nat)(n:Nat)(v:Value):Prop:=match rb with
 |none=>v=.slice none 0 0∧n=0
 |some B=>∃a c,v=.slice (some ⟨B,a,none⟩) n c∧n≤c∧(c=0∨a=0)∧c≤qE H B
def Ek (C:zS)(lo:Nat)(v:Value):Prop:=∃A n c,v=.slice A n c∧C.len≤lo+c
def zM (M:zE):zN→Value→Prop
 |.undef,v=>v.one1=true
 |.int k n,v=>v=.int k n
 |.bool b,v=>v=.bool b
 |.fsl sh t xs,v=>zT M.H (bif sh then M.G else M.F) (.sl t) xs (fun _=>some v)
 |.nsl,v=>v=.slice none 0 0
 |.nfl sh t xs,v=>(∃a n c,v=.slice (some a) n c)∧zT M.H (bif sh then M.G else M.F) (.sl t) xs (fun _=>some v)
 |.osl id r,v=>∃C,M.κ id=some C∧match r with
  |none=>yY M.H C 0 C.len v
  |some (lo,n)=>lo+n≤C.len∧yY M.H C lo n v∧Ek C lo v
 |.bsl id off n,v=>∃C B,M.κ id=some C∧C.blk=some B∧v=.slice (some ⟨B,off,none⟩) n n
 |.ptr id off,v=>∃C B,M.κ id=some C∧C.blk=some B∧v=.pointer (some ⟨B,off,none⟩)
 |.eptr id i off,v=>∃C B,M.κ id=some C∧C.blk=some B∧i<C.len∧v=.pointer (some ⟨B,i*C.sz+off,none⟩)
 |.fptr sh t x off,v=>∃B o,v=.pointer (some ⟨B,o+off,none⟩)∧(bif sh then M.G else M.F) B∧zT M.H (bif sh then M.G else M.F) t x (fun j=>qO M.H B (o+j))
 |.mrow id i ver,v=>∃C,M.κ id=some C∧v.one1=true∧ver≤C.ver∧(C.ver=ver→∃rb rl,C.rows[i]? =some (rb,rl)∧eR M.H rb rl v)
 |.mptr id i,v=>∃C B,M.κ id=some C∧C.blk=some B∧i<C.len∧v=.pointer (some ⟨B,i,none⟩)
 |.meptr id i j ver,v=>∃C,M.κ id=some C∧v.one1=true∧ver≤C.ver∧(C.ver=ver→∃B rl,C.rows[i]? =some (some B,rl)∧j<rl∧v=.pointer (some ⟨B,j,none⟩))
 |.nilp,v=>v=.pointer none
 |.nilf,v=>v=.nilFunc
 |.nilm,v=>v=.map none
 |.fn f cap,v=>∃cv,v=.func (.func f) #[] cv∧zG (fun id u=>∃C B,M.κ id=some C∧C.blk=some B∧u=.pointer (some ⟨B,0,none⟩)) cap cv.toList
 |.map id,v=>∃C B,M.κ id=some C∧C.blk=some B∧v=.map (some B)
 |.str xs,v=>v=.string ⟨(fP xs).toArray⟩
theorem yY.one {H C lo n v}(h:yY H C lo n v):v.one1=true:=by
 obtain⟨A,c,rfl,_⟩:=h;rfl
theorem zM.one {M c v}(h:zM M c v):v.one1=true:=by
 cases c with
 |undef=>exact h
 |fsl sh t xs=>obtain⟨A,n,c,e,_⟩:=h;simp at e;rw[e];rfl
 |nfl sh t xs=>obtain⟨⟨a,n,c,e⟩,_⟩:=h;rw[e];rfl
 |osl id r=>
  obtain⟨C,_,h⟩:=h;cases r with
  |none=>exact yY.one h
  |some p=>exact yY.one h.2.1
 |bsl id off n=>obtain⟨C,B,_,_,rfl⟩:=h;rfl
 |ptr id off=>obtain⟨C,B,_,_,rfl⟩:=h;rfl
 |eptr id i off=>obtain⟨C,B,_,_,_,rfl⟩:=h;rfl
 |fptr sh t x off=>obtain⟨B,o,rfl,_⟩:=h;rfl
 |mrow id i ver=>obtain⟨C,_,h,_⟩:=h;exact h
 |mptr id i=>obtain⟨C,B,_,_,_,rfl⟩:=h;rfl
 |meptr id i j ver=>obtain⟨C,_,h,_⟩:=h;exact h
 |fn f cap=>obtain⟨cv,rfl,_⟩:=h;rfl
 |map id=>obtain⟨C,B,_,_,rfl⟩:=h;rfl
 |_=>rw[show v=_ from h];rfl
def lF (M:zE)(x:Bool×List zN)(v:Value):Prop:=match x with
 |(false,[c])=>zM M c v
 |(true,cs)=>∃vs,v=.agg vs∧zG (zM M) cs vs.toList
 |_=>False
def zK (M:zE):zO→Value→Prop
 |.undef,_=>True
 |.skp,v=>v=undef
 |.c x,v=>zM M x v
 |.agg cs,v=>∃vs,v=.agg vs∧zG (zM M) cs vs.toList
 |.tup xs,v=>∃vs,v=.tuple vs∧zG (lF M) xs vs.toList
def Obj.owned:Obj→Bool
 |.box o _=>o
 |.arr o _ _=>o
 |.robox _=>false
 |.mat _ _=>true
 |.pmat _ _ _=>true
 |.imap _=>true
 |.gone=>false
def vO (n:Int):List MapEntry→Option Value
 |[]=>none
 |e::es=>match e.key with
  |.int .i64 m=>if n=m then some e.val else vO n es
  |_=>vO n es
def qR (M:zE)(o:Obj)(C:zS):Prop:=match o with
 |.box own cells=>∃B vals e,C.blk=some B∧C.rows=[]∧M.H[B]? =some (.cells vals e (0,0))∧zG (zM M) cells vals.toList∧(own=false→M.G B)
 |.robox cells=>∃B vals e,C.blk=some B∧C.rows=[]∧M.H[B]? =some (.cells vals e (0,0))∧zG (zM M) cells vals.toList∧M.F B
 | .arr own t xs => C.len = xs.length ∧ C.sz = t.size ∧ (own = true → C.rows = []) ∧ (match C.blk with
  |none=>xs=[]
  |some B=>∃vals e,M.H[B]? =some (.cells vals e (0,0))∧(own=false→M.G B)∧xs.length*t.size≤vals.size∧
    ∀i (h:i<xs.length),zT M.H M.G t xs[i] (fun j=>vals[i*t.size+j]?))
 | .mat ver xs => C.ver = ver ∧ C.len = xs.length ∧ C.sz = 1 ∧ C.rows.length = xs.length ∧ C.fp.Nodup ∧ (match C.blk with
  |none=>xs=[]
  |some B=>∃vals e,M.H[B]? =some (.cells vals e (0,0))∧xs.length≤vals.size∧
    ∀i (h:i<xs.length),∃rb v,C.rows[i]? =some (rb,xs[i].length)∧vals[i]? =some v∧eR M.H rb xs[i].length v∧
     (∀R,rb=some R→∃rv er,M.H[R]? =some (.cells rv er (0,0))∧∀j (h':j<xs[i].length),rv[j]? =some (.int .i64 xs[i][j])))
 | .pmat ver xs n => C.ver = ver ∧ C.len = n ∧ C.sz = 1 ∧ C.rows.length = xs.length ∧ C.fp.Nodup ∧ xs.length ≤ n ∧ (match C.blk with
  |none=>n=0
  |some B=>∃vals e,M.H[B]? =some (.cells vals e (0,0))∧n≤vals.size∧
    ∀i (h:i<xs.length),∃rb v,C.rows[i]? =some (rb,xs[i].length)∧vals[i]? =some v∧eR M.H rb xs[i].length v∧
     (∀R,rb=some R→∃rv er,M.H[R]? =some (.cells rv er (0,0))∧∀j (h':j<xs[i].length),rv[j]? =some (.int .i64 xs[i][j])))
 |.imap bQ=>∃B es ck,C.blk=some B∧C.rows=[]∧M.H[B]? =some (.map es ck)∧(∀e∈es.toList,∃n b,e.key=.int .i64 n∧e.val=.bool b)∧
   ∀n,vO n es.toList=(bQ.lookup n).map .bool
 |.gone=>True
def qC (M:zE)(b:Nat):Prop:=∃id o C,M.h id=some o∧o.owned=true∧M.κ id=some C∧b∈C.fp
structure Ok (M:zE):Prop where
 obj:∀id o,M.h id=some o→∃C,M.κ id=some C∧qR M o C
 non:∀id,M.h id=none→M.κ id=none
 disj:∀i j oi oj Ci Cj b,i≠j→M.h i=some oi→M.h j=some oj→oi.owned=true→oj.owned=true→M.κ i=some Ci→M.κ j=some Cj→b∈Ci.fp→b∈Cj.fp→False
 own:∀b,qC M b→¬M.F b∧b<M.H.size
 GF:∀b,M.G b→M.F b
 Flt:∀b,M.F b→b<M.H.size
structure qK (M M':zE):Prop where
 κ:∀id C,M.κ id=some C→∃C',M'.κ id=some C'∧C.le C'
 F:∀b,M.F b→M'.F b
 G:∀b,M.G b→M'.G b
 same:∀b,M.F b→M'.H[b]? =M.H[b]?
 sameG:∀b,M.G b→M'.H[b]? =M.H[b]?
 bsz:∀b,b<M.H.size→qE M'.H b=qE M.H b
theorem yHh {H b}(h:¬b<H.size):qE H b=0:=by
 unfold qE;simp_all
theorem NW {M M'}(x:qK M M') b:qE M.H b≤qE M'.H b:=by
 by_cases h:b<M.H.size
 ·rw[x.bsz b h];omega
 ·rw[yHh h];omega
theorem yY.ext {M M'}(x:qK M M'){C C'}(le:C.le C'){lo n v}(h:yY M.H C lo n v):yY M'.H C' lo n v:=by
 obtain⟨A,c,rfl,h⟩:=h;refine⟨A,c,rfl,?_⟩;rw[le.blk];cases hb:C.blk with
 |none=>simp_all
 |some B=>
  rw[hb] at h;obtain⟨h0,a,h1,h2,h3⟩:=h;exact⟨h0,a,h1,by rw[le.sz];exact h2,by rw[le.sz];exact Nat.le_trans h3 (NW x B)⟩
theorem eR.ext {M M'}(x:qK M M'){rb n v}(h:eR M.H rb n v):eR M'.H rb n v:=by
 cases rb with
 |none=>exact h
 |some B=>
  obtain⟨a,c,h1,h2,h3,h4⟩:=h;exact⟨a,c,h1,h2,h3,Nat.le_trans h4 (NW x B)⟩
theorem zM.ext {M M'}(x:qK M M'){c v}(h:zM M c v):zM M' c v:=by
 cases c with
 |fsl sh t xs=>
  cases sh with
  |true=>exact qS x.G x.sameG _ _ _ _ (fun _ _=>rfl) h
  |false=>exact qS x.F x.same _ _ _ _ (fun _ _=>rfl) h
 |nfl sh t xs=>
  cases sh with
  |true=>exact⟨h.1,qS x.G x.sameG _ _ _ _ (by simp) h.2⟩
  |false=>exact⟨h.1,qS x.F x.same _ _ _ _ (by simp) h.2⟩
 |osl id r=>
  obtain⟨C,hC,h⟩:=h;obtain⟨C',aj,le⟩:=x.κ id C hC;refine⟨C',aj,?_⟩;cases r with
  |none=>rw[le.len];exact yY.ext x le h
  |some p=>exact⟨by rw[le.len];omega,yY.ext x le h.2.1,by unfold Ek;rw[le.len];exact h.2.2⟩
 |bsl id off n=>
  obtain⟨C,B,hC,hB,h⟩:=h;obtain⟨C',aj,le⟩:=x.κ id C hC;exact⟨C',B,aj,le.blk.trans hB,h⟩
 |ptr id off=>
  obtain⟨C,B,hC,hB,h⟩:=h;obtain⟨C',aj,le⟩:=x.κ id C hC;exact⟨C',B,aj,le.blk.trans hB,h⟩
 |eptr id i off=>
  obtain⟨C,B,hC,hB,hi,h⟩:=h;obtain⟨C',aj,le⟩:=x.κ id C hC;exact⟨C',B,aj,le.blk.trans hB,by rw[le.len];exact hi,by rw[le.sz];exact h⟩
 |fptr sh t y off=>
  obtain⟨B,o,h1,h2,h3⟩:=h;cases sh with
  |true=>exact⟨B,o,h1,x.G B h2,qS x.G x.sameG _ _ _ _ (fun j _=>Ej (x.sameG B h2) _) h3⟩
  |false=>exact⟨B,o,h1,x.F B h2,qS x.F x.same _ _ _ _ (fun j _=>Ej (x.same B h2) _) h3⟩
 |mrow id i ver=>
  obtain⟨C,hC,h1,hle,h⟩:=h;obtain⟨C',aj,le⟩:=x.κ id C hC;have:=le.ver;refine⟨C',aj,h1,by omega,fun e=>?_⟩;obtain⟨rb,rl,h2,h3⟩:=h (by omega);exact⟨rb,rl,by rw[le.rows (by omega)];exact h2,eR.ext x h3⟩
 |mptr id i=>
  obtain⟨C,B,hC,hB,hi,h⟩:=h;obtain⟨C',aj,le⟩:=x.κ id C hC;exact⟨C',B,aj,le.blk.trans hB,by rw[le.len];exact hi,h⟩
 |meptr id i j ver=>
  obtain⟨C,hC,h1,hle,h⟩:=h;obtain⟨C',aj,le⟩:=x.κ id C hC;have:=le.ver;refine⟨C',aj,h1,by omega,fun e=>?_⟩;obtain⟨B,rl,h2,h3⟩:=h (by omega);exact⟨B,rl,by rw[le.rows (by omega)];exact h2,h3⟩
 |fn f cap=>
  obtain⟨cv,h1,h2⟩:=h;refine⟨cv,h1,h2.mono fun id u ⟨C,B,hC,hB,hu⟩=>?_⟩;obtain⟨C',aj,le⟩:=x.κ id C hC;exact⟨C',B,aj,le.blk.trans hB,hu⟩
 |map id=>
  obtain⟨C,B,hC,hB,h⟩:=h;obtain⟨C',aj,le⟩:=x.κ id C hC;exact⟨C',B,aj,le.blk.trans hB,h⟩
 |_=>exact h
theorem lF.ext {M M'}(x:qK M M'){p v}(h:lF M p v):lF M' p v:=by
 obtain⟨b,cs⟩:=p;cases b with
 |true=>
  obtain⟨vs,h1,h2⟩:=h;exact⟨vs,h1,h2.mono fun _ _ hc=>hc.ext x⟩
 |false=>
  cases cs with
  |nil=>exact h
  |cons c cs=>cases cs with
   |nil=>exact zM.ext (c:=c) x h
   |cons _ _=>exact h
theorem zK.ext {M M'}(x:qK M M'){a v}(h:zK M a v):zK M' a v:=by
 cases a with
 |undef=>trivial
 |skp=>exact h
 |c c=>exact zM.ext (c:=c) x h
 |agg cs=>
  obtain⟨vs,h1,h2⟩:=h;exact⟨vs,h1,h2.mono fun _ _ hc=>hc.ext x⟩
 |tup xs=>
  obtain⟨vs,h1,h2⟩:=h;exact⟨vs,h1,h2.mono fun _ _ hc=>hc.ext x⟩
theorem qR.ext {M M'}(x:qK M M'){o C}(hb:o.owned=true→∀b∈C.fp,M'.H[b]? =M.H[b]?)(h:qR M o C):qR M' o C:=by
 cases o with
 |box own cells=>
  obtain⟨B,vals,e,h1,h2,h3,h4,h5⟩:=h;have hs:M'.H[B]? =M.H[B]? :=by
   cases own with
   |true=>exact hb rfl B (by simp[zS.fp,h1])
   |false=>exact x.sameG B (h5 rfl)
  exact⟨B,vals,e,h1,h2,by simp_all,h4.mono fun _ _ hc=>hc.ext x,fun h=>x.G B (h5 h)⟩
 |robox cells=>
  obtain⟨B,vals,e,h1,h2,h3,h4,h5⟩:=h;exact⟨B,vals,e,h1,h2,by rw[x.same B h5];exact h3,h4.mono fun _ _ hc=>hc.ext x,x.F B h5⟩
 |arr own t xs=>
  obtain⟨h1,h2,h3,h4⟩:=h;refine⟨h1,h2,h3,?_⟩;cases hB:C.blk with
  |none=>simp_all
  |some B=>
   rw[hB] at h4;obtain⟨vals,e,h5,h6,h7,h8⟩:=h4;have hs:M'.H[B]? =M.H[B]? :=by
    cases own with
    |true=>exact hb rfl B (by simp[zS.fp,hB])
    |false=>exact x.sameG B (h6 rfl)
   exact⟨vals,e,by simp_all,fun h=>x.G B (h6 h),h7,fun i hi=>qS x.G x.sameG _ _ _ _ (by simp) (h8 i hi)⟩
 |mat ver xs=>
  obtain⟨h1,h2,h3,h4,h5,h6⟩:=h;refine⟨h1,h2,h3,h4,h5,?_⟩;cases hB:C.blk with
  |none=>rw[hB] at h6;exact h6
  |some B=>
   rw[hB] at h6;obtain⟨vals,e,h7,h8,h9⟩:=h6;refine⟨vals,e,by rw[hb rfl B (by simp[zS.fp,hB])];exact h7,h8,fun i hi=>?_⟩;obtain⟨rb,v,k1,k2,k3,k4⟩:=h9 i hi;refine⟨rb,v,k1,k2,k3.ext x,fun R hR=>?_⟩;obtain⟨rv,er,k5,k6⟩:=k4 R hR;refine⟨rv,er,?_,k6⟩;rw[hb rfl R ?_]
   ·exact k5
   ·simp[zS.fp];exact by grind
 |pmat ver xs n=>
  obtain⟨h1,h2,h3,h4,h5,h0,h6⟩:=h;refine⟨h1,h2,h3,h4,h5,h0,?_⟩;cases hB:C.blk with
  |none=>simp_all
  |some B=>
   rw[hB] at h6;obtain⟨vals,e,h7,h8,h9⟩:=h6;refine⟨vals,e,by rw[hb rfl B (by simp[zS.fp,hB])];exact h7,h8,fun i hi=>?_⟩;obtain⟨rb,v,k1,k2,k3,k4⟩:=h9 i hi;refine⟨rb,v,k1,k2,k3.ext x,fun R hR=>?_⟩;obtain⟨rv,er,k5,k6⟩:=k4 R hR;refine⟨rv,er,?_,k6⟩;rw[hb rfl R ?_]
   ·exact k5
   ·simp only[zS.fp];grind
 |imap bQ=>
  obtain⟨B,es,ck,h1,h2,h3,h4,h5⟩:=h;exact⟨B,es,ck,h1,h2,by rw[hb rfl B (by simp[zS.fp,h1])];exact h3,h4,h5⟩
 |gone=>trivial
structure qU (M M':zE):Prop where
 ext:qK M M'
 size:M.H.size≤M'.H.size
 frame:∀b,b<M.H.size→¬qC M b→M'.H[b]? =M.H[b]?
 own:∀b,qC M' b→b<M.H.size→qC M b
 Gb:∀b,M'.G b→b<M.H.size→M.G b∨qC M b
 Fb:∀b,M'.F b→b<M.H.size→M.F b∨qC M b
theorem qK.refl M:qK M M:=⟨fun _ C h=>⟨C,h,C.le_refl⟩,by simp,by simp,by simp,by simp,by simp⟩
theorem qU.refl M:qU M M:=⟨qK.refl M,by simp,by simp,by grind,by grind,by grind⟩
theorem qK.trans {M M' eS}(hs:M.H.size≤M'.H.size)(x:qK M M')(y:qK M' eS):qK M eS where
 κ id C h:=by
  obtain⟨C',h',le⟩:=x.κ id C h;obtain⟨C'',h'',le'⟩:=y.κ id C' h';exact⟨C'',h'',zS.le_trans le le'⟩
 F b h:=y.F b (x.F b h)
 G b h:=y.G b (x.G b h)
 same b h:=(y.same b (x.F b h)).trans (x.same b h)
 sameG b h:=(y.sameG b (x.G b h)).trans (x.sameG b h)
 bsz b h:=(y.bsz b (by omega)).trans (x.bsz b h)
theorem qU.trans {M M' eS}(x:qU M M')(y:qU M' eS):qU M eS where
 ext:=x.ext.trans x.size y.ext
 size:=Nat.le_trans x.size y.size
 frame b h hn:=by
  have:=x.size;rw[y.frame b (by omega) fun ho=>hn (x.own b ho h),x.frame b h hn]
 own b ho h:=x.own b (y.own b ho (by have:=x.size;omega)) h
 Gb b hg h:=by
  rcases y.Gb b hg (by have:=x.size;omega) with k|k
  ·exact x.Gb b k h
  ·exact .inr (x.own b k h)
 Fb b hg h:=by
  rcases y.Fb b hg (by have:=x.size;omega) with k|k
  ·exact x.Fb b k h
  ·exact .inr (x.own b k h)
theorem Ok.build {M M'}(ok:Ok M)(x:qK M M')(T:Nat→Prop)
  (hh:∀id,¬T id→M'.h id=M.h id) (hκ:∀id,¬T id→M'.κ id=M.κ id)
  (keep:∀id o C,¬T id→M.h id=some o→o.owned=true→M.κ id=some C→∀b∈C.fp,M'.H[b]? =M.H[b]?)
  (NX:∀id o C,¬T id→M.h id=some o→o.owned=true→M.κ id=some C→∀b∈C.fp,¬M'.F b)
  (size:M.H.size≤M'.H.size)
  (obj:∀id o,T id→M'.h id=some o→∃C,M'.κ id=some C∧qR M' o C)
  (non:∀id,T id→M'.h id=none→M'.κ id=none)
  (disj:∀id o C b,T id→M'.h id=some o→o.owned=true→M'.κ id=some C→b∈C.fp→
   (∀j oj Cj,j≠id→M'.h j=some oj→oj.owned=true→M'.κ j=some Cj→b∉Cj.fp)∧¬M'.F b∧b<M'.H.size)
  (GF:∀b,M'.G b→M'.F b) (Flt:∀b,M'.F b→b<M'.H.size):Ok M' where
 obj id o h:=by
  by_cases hT:T id
  ·exact obj id o hT h
  ·rw[hh id hT] at h;obtain⟨C,hC,hO⟩:=ok.obj id o h;exact⟨C,by rw[hκ id hT];exact hC,hO.ext x fun ho=>keep id o C hT h ho hC⟩
 non id h:=by
  by_cases hT:T id
  ·exact non id hT h
  ·rw[hκ id hT];exact ok.non id (by rw[←hh id hT];exact h)
 disj i j oi oj Ci Cj b fx hi hj hoi hoj NY cA tZ hbj:=by
  by_cases NZ:T i
  ·grind
  ·by_cases N0:T j
   ·grind
   ·rw[hh i NZ] at hi;rw[hh j N0] at hj;rw[hκ i NZ] at NY;rw[hκ j N0] at cA;exact ok.disj i j oi oj Ci Cj b fx hi hj hoi hoj NY cA tZ hbj
 own b hb:=by
  obtain⟨id,o,C,h,ho,hC,hb⟩:=hb;by_cases hT:T id
  ·exact(disj id o C b hT h ho hC hb).2
  ·rw[hh id hT] at h;rw[hκ id hT] at hC;have:=ok.own b ⟨id,o,C,h,ho,hC,hb⟩;grind
 GF:=GF
 Flt:=Flt
def κset (κ:Nat→Option zS)(id:Nat)(C:zS):Nat→Option zS:=fun n=>if n=id then some C else κ n
theorem κset_same κ id C:κset κ id C id=some C:=by simp[κset]
theorem κset_ne κ {id n} C (h:n≠id):κset κ id C n=κ n:=by simp[κset,h]
theorem qM h id o:qH h id o id=some o:=by simp[qH]
theorem qN h {id n} o (hn:n≠id):qH h id o n=h n:=by
 have:Nat.beq n id=false:=by
  cases hb:Nat.beq n id with
  |true=>simp_all
  |false=>rfl
 simp[qH,this]
theorem gG {H:Array Go.Obj}{o b}(h:b<H.size):(H.push o)[b]? =H[b]? :=by
 grind
theorem nv {H:Array Go.Obj}{o}:(H.push o)[H.size]? =some o:=by simp
def zE.new (M:zE)(id:Nat)(o:Obj)(C:zS)(ob:Go.Obj):zE:={M with κ:=κset M.κ id C,h:=qH M.h id o,H:=M.H.push ob}
theorem zE.new_ext {M}(ok:Ok M){id}(ab:M.h id=none) o C ob:qK M (M.new id o C ob) where
 κ n D h:=by
  have:n≠id:=fun e=>by rw[e,ok.non id ab] at h;cases h
  exact⟨D,by simp[zE.new];rw[κset_ne _ _ this];exact h,D.le_refl⟩
 F _ h:=h
 G _ h:=h
 same b h:=gG (ok.Flt b h)
 sameG b h:=gG (ok.Flt b (ok.GF b h))
 bsz b h:=qe (gG h)
theorem zE.new_ok {M}(ok:Ok M){id}(ab:M.h id=none) o C ob (hC:∀b∈C.fp,b=M.H.size)
  (hO:qR (M.new id o C ob) o C):Ok (M.new id o C ob)∧qU M (M.new id o C ob):=by
 have x:=zE.new_ext ok ab o C ob;have bZ:(M.new id o C ob).H.size=M.H.size+1:=by simp[zE.new]
 have kn:∀b,qC (M.new id o C ob) b→b=M.H.size∨qC M b:=by
  rintro b ⟨n,q,D,h1,h2,h3,h4⟩
  by_cases e:n=id
  ·subst e;simp[zE.new,κset_same] at h1 h3;grind
  ·simp[zE.new] at h1 h3;rw[qN _ _ e] at h1;rw[κset_ne _ _ e] at h3;exact .inr ⟨n,q,D,h1,h2,h3,h4⟩
 refine⟨ok.build x (· =id) (fun n hn=>qN _ _ hn) (fun n hn=>κset_ne _ _ hn) ?_ ?_ (by omega) ?_ ?_ ?_ ok.GF ?_,x,by omega,?_,?_,?_,?_⟩
 ·intro n q D hn h1 h2 h3 b hb;exact gG (ok.own b ⟨n,q,D,h1,h2,h3,hb⟩).2
 ·intro n q D hn h1 h2 h3 b hb;exact(ok.own b ⟨n,q,D,h1,h2,h3,hb⟩).1
 ·rintro n q rfl h1
  simp[zE.new,qM] at h1;subst h1;exact⟨C,κset_same _ _ _,hO⟩
 ·rintro n rfl h1
  simp only[zE.new,qM] at h1;cases h1
 ·rintro n q D b rfl h1 h2 h3 hb
  simp[zE.new,κset_same] at h3;subst h3;have eb:=hC b hb;refine⟨fun j oj Cj hj k1 k2 k3 k4=>?_,fun hF=>?_,by omega⟩
  ·simp[zE.new] at k1 k3;rw[qN _ _ hj] at k1;rw[κset_ne _ _ hj] at k3;have:=(ok.own b ⟨j,oj,Cj,k1,k2,k3,k4⟩).2;omega
  ·have:=ok.Flt b hF;omega
 ·intro b hb;have:=ok.Flt b hb;omega
 ·intro b hb _;exact gG hb
 ·grind
 ·exact fun b h _=>.inl h
 ·exact fun b h _=>.inl h
def zE.write (M:zE)(id:Nat)(o:Obj)(C:zS)(H:Array Go.Obj):zE:={M with κ:=κset M.κ id C,h:=qH M.h id o,H:=H}
theorem zE.write_ext {M}(ok:Ok M){id o C C' H'}(ab:M.h id=some o)(au:o.owned=true)(hC:M.κ id=some C)
    (hle:C.le C') (hH:∀b,b∉C.fp→H'[b]? =M.H[b]?) (bK:∀b,b<M.H.size→qE H' b=qE M.H b) o':qK M (M.write id o' C' H'):=
  have lG:∀b,M.F b→b∉C.fp:=fun b hF hb=>(ok.own b ⟨id,o,C,ab,au,hC,hb⟩).1 hF
  { κ:=fun n D h=>by
      by_cases e:n=id
      · subst e;rw[hC] at h;cases h;exact⟨C',κset_same _ _ _,hle⟩
      · exact⟨D,by simp[zE.write];rw[κset_ne _ _ e];exact h,D.le_refl⟩
    F:=fun _ h=>h
    G:=fun _ h=>h
    same:=fun b h=>hH b (lG b h)
    sameG:=fun b h=>hH b (lG b (ok.GF b h))
    bsz:=bK}
theorem zE.write_ok {M}(ok:Ok M){id o o' C C' H'}(ab:M.h id=some o)(au:o.owned=true)(hC:M.κ id=some C)
  (hle:C.le C') (iJ:∀b∈C'.fp,b∈C.fp) (bZ:H'.size=M.H.size) (hH:∀b,b∉C.fp→H'[b]? =M.H[b]?) (bK:∀b,b<M.H.size→qE H' b=qE M.H b)
  (hO:qR (M.write id o' C' H') o' C'):Ok (M.write id o' C' H')∧qU M (M.write id o' C' H'):=by
 have x:=zE.write_ext ok ab au hC hle hH bK o';have kn:∀b,qC (M.write id o' C' H') b→qC M b:=by
  rintro b ⟨n,q,D,h1,h2,h3,h4⟩
  by_cases e:n=id
  ·subst e;simp[zE.write,κset_same] at h1 h3;subst h3;exact⟨n,o,C,ab,au,hC,iJ b h4⟩
  ·simp[zE.write] at h1 h3;rw[qN _ _ e] at h1;rw[κset_ne _ _ e] at h3;exact⟨n,q,D,h1,h2,h3,h4⟩
 refine⟨ok.build x (· =id) (fun n hn=>qN _ _ hn) (fun n hn=>κset_ne _ _ hn) ?_ ?_ (by simp[zE.write];omega) ?_ ?_ ?_ ok.GF ?_,x,by simp[zE.write];omega,?_,?_,?_,?_⟩
 ·intro n q D hn h1 h2 h3 b hb;exact hH b fun hc=>ok.disj n id q o D C b hn h1 ab h2 au h3 hC hb hc
 ·intro n q D hn h1 h2 h3 b hb;exact(ok.own b ⟨n,q,D,h1,h2,h3,hb⟩).1
 ·rintro n q rfl h1
  simp[zE.write,qM] at h1;subst h1;exact⟨C',κset_same _ _ _,hO⟩
 ·rintro n rfl h1
  simp only[zE.write,qM] at h1;cases h1
 ·rintro n q D b rfl h1 h2 h3 hb
  simp[zE.write,κset_same] at h3;subst h3;have bn:=iJ b hb;have:=ok.own b ⟨n,o,C,ab,au,hC,bn⟩;refine⟨fun j oj Cj hj k1 k2 k3 k4=>?_,this.1,by simp[zE.write];omega⟩;simp[zE.write] at k1 k3;rw[qN _ _ hj] at k1;rw[κset_ne _ _ hj] at k3;exact ok.disj j n oj o Cj C b hj k1 ab k2 au k3 hC k4 bn
 ·intro b hb;have:=ok.Flt b hb;simp[zE.write];omega
 ·intro b hb hn;exact hH b fun hc=>hn ⟨id,o,C,ab,au,hC,hc⟩
 ·simp_all
 ·exact fun b h _=>.inl h
 ·exact fun b h _=>.inl h
def zE.freeze (M:zE)(id:Nat)(o:Obj)(C:zS):zE:={M with h:=qH M.h id o,F:=fun b=>M.F b∨b∈C.fp,G:=fun b=>M.G b∨b∈C.fp}
theorem zE.freeze_ok {M}(ok:Ok M){id o o' C}(ab:M.h id=some o)(au:o.owned=true)(hC:M.κ id=some C)
  (fy:o'.owned=false) (hO:qR (M.freeze id o' C) o' C):Ok (M.freeze id o' C)∧qU M (M.freeze id o' C):=by
 have x:qK M (M.freeze id o' C):=⟨fun _ C h=>⟨C,h,C.le_refl⟩,fun _ h=>.inl h,fun _ h=>.inl h,fun _ _=>rfl,fun _ _=>rfl,fun _ _=>rfl⟩;have ua:∀b∈C.fp,qC M b:=fun b hb=>⟨id,o,C,ab,au,hC,hb⟩
 have kn:∀b,qC (M.freeze id o' C) b→qC M b:=by
  rintro b ⟨n,q,D,h1,h2,h3,h4⟩
  by_cases e:n=id
  ·subst e;simp[zE.freeze,qM] at h1;simp_all
  ·simp[zE.freeze] at h1;rw[qN _ _ e] at h1;exact⟨n,q,D,h1,h2,h3,h4⟩
 refine⟨ok.build x (· =id) (fun n hn=>qN _ _ hn) (fun n _=>rfl) (fun _ _ _ _ _ _ _ _ _=>rfl) ?_ (Nat.le_refl _) ?_ ?_ ?_ ?_ ?_,x,Nat.le_refl _,fun _ _ _=>rfl,by grind,?_,?_⟩
 ·rintro n q D hn h1 h2 h3 b hb (hF|hF)
  ·exact(ok.own b ⟨n,q,D,h1,h2,h3,hb⟩).1 hF
  ·exact ok.disj n id q o D C b hn h1 ab h2 au h3 hC hb hF
 ·rintro n q rfl h1
  simp[zE.freeze,qM] at h1;subst h1;exact⟨C,hC,hO⟩
 ·rintro n rfl h1
  simp only[zE.freeze,qM] at h1;cases h1
 ·rintro n q D b rfl h1 h2 h3 hb
  simp[zE.freeze,qM] at h1;simp_all
 ·rintro b (h|h)
  ·exact .inl (ok.GF b h)
  ·exact .inr h
 ·rintro b (h|h)
  ·exact ok.Flt b h
  ·exact(ok.own b (ua b h)).2
 ·rintro b (h|h) _
  all_goals simp_all
 ·rintro b (h|h) _
  all_goals simp_all
end Go.Ab
set_option linter.unusedSimpArgs false
namespace Go.Ab
def zl:List (Bool×zO×qV)→zO→qV→Prop
 |[],_,_=>False
 |(c,a,b)::l,v,u=>(c=true∧v=a∧u=b)∨(c=false∧zl l v u)
def qJ (s:qQ)(v:zO)(u:qV):Prop:=match s with
 |.alts l=>zl l v u
 |.call _ x f=>∃r,x=some r∧v=(f r).1∧u=(f r).2
 |.call2 _ _ x f g=>(∃r,x=some (.inl r)∧v=(f r).1∧u=(f r).2)∨(∃r,x=some (.inr r)∧v=(g r).1∧u=(g r).2)
theorem N1 {R K}{out:R}:∀{l},DQ K l=some out→∃v u,zl l v u∧K v u=some out
 |(c,a,b)::l,h=>by
  cases c with
  |true=>exact⟨a,b,.inl (by simp),h⟩
  |false=>
   obtain⟨v,u,h1,h2⟩:=N1 (l:=l) h;exact⟨v,u,.inr (by grind),h2⟩
theorem qQ.elim_some {R s K}{out:R}(h:s.elim K=some out):∃v u,qJ s v u∧K v u=some out:=by
 cases s with
 |alts l=>exact N1 h
 |call X x f=>
  simp[qQ.elim,Option.bind_eq_some_iff] at h;obtain⟨r,h1,h2⟩:=h;exact⟨_,_,⟨r,h1,rfl,rfl⟩,h2⟩
 |call2 X Y x f g=>
  simp[qQ.elim,Option.bind_eq_some_iff] at h;obtain⟨r,h1,h2⟩:=h;cases r with
  |inl r=>exact⟨_,_,.inl ⟨r,h1,rfl,rfl⟩,h2⟩
  |inr r=>exact⟨_,_,.inr ⟨r,h1,rfl,rfl⟩,h2⟩
theorem yM {v a u}(h:qJ (.one a) v u):v=a∧u=[]:=by
 rcases h with⟨_,h1,h2⟩|⟨h,_⟩
 all_goals simp_all
theorem dW {c v a u}(h:qJ (.when c a) v u):c=true∧v=a∧u=[]:=by
 rcases h with h|⟨_,h⟩
 ·exact h
 ·exact h.elim
theorem wE {c v a u b}(h:qJ (.alts [(c,a,b)]) v u):c=true∧v=a∧u=b:=by
 rcases h with h|⟨_,h⟩
 ·exact h
 ·exact h.elim
theorem El {x v u}(h:qJ (.ofO x) v u):x=some v∧u=[]:=by
 cases x with
 |none=>exact h.elim
 |some a=>
  obtain⟨rfl,rfl⟩:=yM h;simp
section
variable {P:Program} (w:World)
theorem zm {t d}(h:P.underlying t=some d):∃i,P.info? t=some i:=by
 unfold Program.underlying at h;grind
theorem Em {t i}(h:P.info? t=some i):P.cellsOf t=i.size:=by simp[Program.cellsOf,h]
theorem yTh {t i}(h:P.info? t=some i):P.bytesOf t=i.bytes:=by simp[Program.bytesOf,h]
theorem fR {t}(h:0<P.cellsOf t):∃i,P.info? t=some i:=by
 cases hi:P.info? t with
 |none=>simp[Program.cellsOf,hi] at h
 |some i=>simp
theorem En {t i}(h:P.info? t=some i):(typeInfo t).run P w=.ok i w:=by simp[typeInfo,h]
theorem wP {t i}(h:P.info? t=some i):(sizeOf t).run P w=.ok (P.cellsOf t) w:=by
 rw[Em h];simp[sizeOf,typeInfo,h]
theorem ko {t b}(h:vI P t=some b):(∃d,P.underlying t=some d)∧(isAgg t).run P w=.ok b w:=by
 unfold vI at h;cases hd:P.underlying t with
 |none=>simp_all
 |some d=>
  rw[hd] at h;cases d<;>simp at h<;>subst h<;>simp[isAgg,run_underlying hd]
theorem N2 {t cs}(h:zeroCells P t=some cs):∃i v,P.info? t=some i∧i.zero=some v∧v.cells.size=i.size∧v.cells.toList.all ng=true∧cs=v.cells.toList.map nf:=by
 unfold zeroCells at h;split at h
 ·rename_i i hi;split at h
  ·rename_i v hv;cases hb:(Nat.beq v.cells.size i.size&&v.cells.toList.all ng) with
   |false=>grind
   |true=>
    rw[hb] at h;simp_all
  ·cases h
 ·cases h
end
theorem yFe {v}(h:ng v=true):v.one1=true:=by cases v<;>first|rfl|cases h
theorem nx {v:Value}(h:v.one1=true):v.oneCell'=true:=by cases v<;>first|rfl|cases h
theorem N3 M {v}(h:v.one1=true):zM M (nf v) v:=by
 unfold nf;split<;>first|rfl|exact h
theorem zn M:∀{l},l.all ng=true→zG (zM M) (l.map nf) l
 |[],_=>trivial
 |v::l,h=>by
  simp only[List.all_cons,Bool.and_eq_true] at h;exact⟨N3 M (yFe h.1),zn M h.2⟩
theorem yR1 M v:zK M (DR v) v:=by
 unfold DR;split
 ·rename_i cs;cases hb:cs.toList.all ng with
  |false=>trivial
  |true=>exact⟨cs,rfl,zn M hb⟩
 ·trivial
 ·exact N3 M (by cases v<;>first|rfl|simp_all|simp_all)
def zZ (P:Program)(s:Sem Value)(M:zE)(w:World)(v:zO)(u:qV):Prop:=
 ∃rv w' M',s.run P w=.ok rv w'∧w'.os=w.os∧w'.tape=w.tape∧w'.output=w.output∧M'.H=w'.heap∧M'.h=zX M.h u∧Ok M'∧qU M M'∧zK M' v rv
theorem zZ.pure {P s M w v rv}(ok:Ok M)(hM:M.H=w.heap)(h:s.run P w=.ok rv w)(hv:zK M v rv):zZ P s M w v []:=
 ⟨rv,w,M,h,rfl,rfl,rfl,hM,rfl,ok,qU.refl M,hv⟩
theorem qg sh:∀t x,(cellsOf sh t x).length=t.size
 |.int _,_|.bool,_|.sl _,_=>rfl
 |.pair a b,p=>by simp[cellsOf,qg sh a,qg sh b,Ty.size]
theorem zo M sh:∀t x rd,zT M.H (bif sh then M.G else M.F) t x rd→
  ∀j h,∃v,rd j=some v∧zM M (cellsOf sh t x)[j] v
 |.int k,n,rd,h,j,hj
 |.bool,n,rd,h,j,hj=>by
  simp[cellsOf] at hj;obtain rfl:j=0:=by omega
  exact⟨_,h,rfl⟩
 |.sl t,xs,rd,h,j,hj=>by
  simp[cellsOf] at hj;obtain rfl:j=0:=by omega
  obtain⟨A,n,c,h1,h2⟩:=h;refine⟨_,h1,?_⟩;show zT _ _ _ _ _;simp[zT];grind
 |.pair a b,p,rd,h,j,hj=>by
  simp[cellsOf,qg] at hj;by_cases aS:j<(cellsOf sh a p.1).length
  ·obtain⟨v,h1,h2⟩:=zo M sh a p.1 rd h.1 j aS;refine⟨v,h1,?_⟩;simp[cellsOf,List.getElem_append_left aS];exact h2
  ·have dA:=aS;rw[qg] at dA;obtain⟨v,h1,h2⟩:=zo M sh b p.2 _ h.2 (j-a.size) (by rw[qg];omega);refine⟨v,by grind,?_⟩;have fS:(cellsOf sh a p.1).length≤j:=by omega
   simp[cellsOf,List.getElem_append_right fS];simp[qg];exact h2
theorem ub {cells vs off n}(h:eO cells off n=some vs):off+n≤cells.length∧vs=(cells.drop off).take n∧vs.length=n:=by
 unfold eO at h;cases hb:Nat.ble (off+n) cells.length with
 |false=>simp_all
 |true=>
  have:=Nat.le_of_ble_eq_true hb;grind
theorem Eo {agg vs v}(h:iE agg vs=some v):(agg=some true∧v=.agg vs)∨(agg=some false∧∃c,vs=[c]∧v=.c c):=by
 unfold iE at h;grind
theorem N4 {P M w}(ok:Ok M)(hM:M.H=w.heap){t B o cells vs off v}
  (dX:∀j h,∃u,qO M.H B (o+j)=some u∧zM M cells[j] u)
  (cD:eO cells off (P.cellsOf t)=some vs) (hp:iE (vI P t) vs=some v):
  ∃rv,(loadVar t ⟨B,o+off,none⟩).run P w=.ok rv w∧zK M v rv:=by
 obtain⟨h1,h2,h3⟩:=ub cD;have bS:∀j,j<vs.length→∃u,w.cell? ⟨B,o+off+j,none⟩=some u∧∃c,vs[j]? =some c∧zM M c u:=by
  intro j hj;obtain⟨u,k1,k2⟩:=dX (off+j) (by omega);refine⟨u,by rw[kl,←hM,Nat.add_assoc];exact k1,cells[off+j],?_,k2⟩;grind
 rcases Eo hp with⟨cr,rfl⟩|⟨cr,c,rfl,rfl⟩
 ·obtain⟨⟨d,hd⟩,hr⟩:=ko (P:=P) w cr;obtain⟨i,hi⟩:=zm hd;have hf:∃us:List Value,us.length=vs.length∧∀j (h:j<vs.length),∃u c,us[j]? =some u∧w.cell? ⟨B,o+off+j,none⟩=some u∧vs[j]? =some c∧zM M c u:=by
   refine⟨(List.range vs.length).map fun j=>(w.cell? ⟨B,o+off+j,none⟩).getD undef,by simp,fun j h=>?_⟩;grind
  obtain⟨us,hl,fT⟩:=hf;have eT := run_loadCells_list (P := P) w ⟨B, o + off, none⟩ us (fun j u hu=>by
   have hj:j<us.length:=by
    grind
   obtain⟨u',c,k1,k2,_⟩:=fT j (by omega);rw[hu] at k1;cases k1;rw[Addr.add_lit];exact k2)
  refine⟨.agg us.toArray,?_,?_⟩
  ·rw[hl,h3] at eT;simp[loadVar,hr,wP w hi,eT]
  ·refine⟨us.toArray,rfl,zG.of_get (by simp_all) fun j k1 k2=>?_⟩;grind
 ·obtain⟨⟨d,hd⟩,hr⟩:=ko (P:=P) w cr;obtain⟨u,k1,c',k2,k3⟩:=bS 0 (by simp);simp at k2;subst k2;refine⟨u,?_,k3⟩;simp at k1;simp[loadVar,hr,k1]
theorem zp {P M w}(ok:Ok M)(hM:M.H=w.heap){t B o cells vs off v}
  (dX:∀j h,∃u,qO M.H B (o+j)=some u∧zM M cells[j] u)
  (cD:eO cells off (P.cellsOf t)=some vs) (hp:iE (vI P t) vs=some v):
  zZ P (loadVar t ⟨B,o+off,none⟩) M w v []:=by
 obtain⟨rv,h1,h2⟩:=N4 (w:=w) ok hM dX cD hp;exact .pure ok hM h1 h2
theorem jE P w a:(Instr.sureAddr (.pointer (some a))).run P w=.ok a w:=rfl
theorem N5 {M own cells C}(h:qR M (.box own cells) C):∃B,C.blk=some B∧∀j h,∃u,qO M.H B (0+j)=some u∧zM M cells[j] u:=by
 obtain⟨B,vals,e,h1,h2,h3,h4,h5⟩:=h;refine⟨B,h1,fun j hj=>?_⟩;have hl:=h4.length;have kp:j<vals.size:=by simp_all
 refine⟨vals[j],?_,?_⟩
 ·simp[qO,h3]
 ·have:=h4.get j hj (by omega);simp_all
theorem yFj {M cells C}(h:qR M (.robox cells) C):∃B,C.blk=some B∧∀j h,∃u,qO M.H B (0+j)=some u∧zM M cells[j] u:=by
 obtain⟨B,vals,e,h1,h2,h3,h4,h5⟩:=h;refine⟨B,h1,fun j hj=>?_⟩;have hl:=h4.length;have kp:j<vals.size:=by simp_all
 refine⟨vals[j],?_,?_⟩
 ·simp[qO,h3]
 ·have:=h4.get j hj (by omega);simp_all
theorem yHx {M own t xs C}(h:qR M (.arr own t xs) C){i}(hi:i<xs.length):∃B,C.blk=some B∧
  ∀j h,∃u,qO M.H B (i*C.sz+j)=some u∧zM M (cellsOf true t (xs.getD i t.dflt))[j] u:=by
 obtain⟨h1,h2,h3,h4⟩:=h;cases hB:C.blk with
 |none=>simp_all
 |some B=>
  rw[hB] at h4;obtain⟨vals,e,h5,h6,h7,h8⟩:=h4;refine⟨B,rfl,fun j hj=>?_⟩;have:=zo M true t xs[i] _ (h8 i hi) j (by simp_all);obtain⟨v,k1,k2⟩:=this;refine⟨v,?_,?_⟩
  ·rw[h2];simp[qO,h5];exact k1
  simp_all
theorem zq {P t cells off v u}(h:qJ (tR P t cells off) v u):
  ∃vs,eO cells off (P.cellsOf t)=some vs∧iE (vI P t) vs=some v∧u=[]:=by
 obtain⟨h',rfl⟩:=El h;rw[Option.bind_eq_some_iff] at h';simp_all
theorem eR.one {H rb n v}(h:eR H rb n v):v.one1=true:=by
 cases rb with
 |none=>obtain⟨rfl,_⟩:=h;rfl
 |some R=>obtain⟨a,c,rfl,_⟩:=h;rfl
theorem qh {M ver xs C}(h:qR M (.mat ver xs) C){i} hi:∃B rb v,C.blk=some B∧C.ver=ver∧
  C.rows[i]? =some (rb,xs[i].length)∧qO M.H B i=some v∧eR M.H rb xs[i].length v∧(∀R,rb=some R→∀j (h':j<xs[i].length),qO M.H R j=some (.int .i64 xs[i][j])):=by
 obtain⟨q1,q2,q3,q4,q5,q6⟩:=h;cases hB:C.blk with
 |none=>grind
 |some B=>
  rw[hB] at q6;obtain⟨vals,e,q7,q8,q9⟩:=q6;obtain⟨rb,v,k1,k2,k3,k4⟩:=q9 i hi;refine⟨B,rb,v,rfl,q1,k1,by simp[qO,q7];exact k2,k3,fun R hR j hj=>?_⟩;obtain⟨rv,er,k5,k6⟩:=k4 R hR;simp[qO];simp_all
theorem yJy {P M w}(ok:Ok M)(hM:M.H=w.heap){t a v u ra}(ha:zK M a ra)
  (h:qJ (pM P M.h t a) v u):zZ P (Instr.loadAt t ra) M w v u:=by
 unfold pM at h;split at h
 ·split at h
  ·rename_i own cells ab;obtain⟨vs,h1,h2,rfl⟩:=zq h;obtain⟨C,B,hC,hB,rfl⟩:=ha;obtain⟨C',aj,hO⟩:=ok.obj _ _ ab;rw[hC] at aj;cases aj;obtain⟨B',dB,aq⟩:=N5 hO;rw[hB] at dB;cases dB;have:=zp (P:=P) ok hM (t:=t) (o:=0) aq h1 h2
   simpa[Instr.loadAt,zZ,jE] using this
  ·rename_i cells ab;obtain⟨vs,h1,h2,rfl⟩:=zq h;obtain⟨C,B,hC,hB,rfl⟩:=ha;obtain⟨C',aj,hO⟩:=ok.obj _ _ ab;rw[hC] at aj;cases aj;obtain⟨B',dB,aq⟩:=yFj hO;rw[hB] at dB;cases dB;have:=zp (P:=P) ok hM (t:=t) (o:=0) aq h1 h2
   simpa[Instr.loadAt,zZ,jE] using this
  ·exact h.elim
 ·rename_i sh ty x off;obtain⟨vs,h1,h2,rfl⟩:=zq h;obtain⟨B,o,rfl,hB,hE⟩:=ha;have:=zp (P:=P) ok hM (t:=t) (B:=B) (o:=o) (fun j hj=>zo M sh ty x _ hE j hj) h1 h2
  simpa[Instr.loadAt,zZ,jE] using this
 ·rename_i id i off;split at h
  ·rename_i own ty xs ab;obtain⟨vs,h1,h2,rfl⟩:=zq h;obtain⟨C,B,hC,hB,hi,rfl⟩:=ha;obtain⟨C',aj,hO⟩:=ok.obj _ _ ab;rw[hC] at aj;cases aj;obtain⟨B',dB,aq⟩:=yHx hO (i:=i) (by rw[←hO.1];exact hi);rw[hB] at dB;cases dB;have:=zp (P:=P) ok hM (t:=t) aq h1 h2
   simpa[Instr.loadAt,zZ,jE] using this
  ·exact h.elim
 ·rename_i id i;split at h
  ·rename_i ver xs ab;split at h
   ·rename_i cr;obtain⟨rfl,rfl⟩:=yM h;obtain⟨C,B,hC,hB,hi,rfl⟩:=ha;obtain⟨C',aj,hO⟩:=ok.obj _ _ ab;rw[hC] at aj;cases aj;obtain⟨B',rb,x,k0,kv,k1,k2,k3,k4⟩:=qh hO (i:=i) (by rw[←hO.2.1];exact hi);rw[hB] at k0;cases k0;obtain⟨_,hr⟩:=ko (P:=P) w cr;have qO:w.cell? ⟨B,i,none⟩=some x:=by rw[kl,←hM];exact k2
    exact zZ.pure ok hM (rv:=x) (by simp[Instr.loadAt,jE,loadVar,hr,qO]) ⟨C,hC,k3.one,by omega,by grind⟩
   ·exact h.elim
  ·exact h.elim
 ·rename_i id i j ver;split at h
  ·rename_i v' xs ab;cases hv:Nat.beq v' ver with
   |false=>rw[hv] at h;exact h.elim
   |true=>
    rw[hv] at h;have hv:=Nat.eq_of_beq_eq_true hv;subst hv;split at h
    ·rename_i cr;obtain⟨rfl,rfl⟩:=yM h;obtain⟨C,hC,h1,hle,hm⟩:=ha;obtain⟨C',aj,hO⟩:=ok.obj _ _ ab;rw[hC] at aj;cases aj;obtain⟨R,rl,k1,k2,rfl⟩:=hm hO.1;have hi:i<xs.length:=by
      rw[←hO.2.2.2.1];grind
     obtain⟨B',rb,x,q0,qv,q1,q2,q3,q4⟩:=qh hO hi;rw[k1] at q1;cases q1;obtain⟨_,hr⟩:=ko (P:=P) w cr;have qO:w.cell? ⟨R,j,none⟩=some (.int .i64 xs[i][j]):=by rw[kl,←hM];exact by grind
     refine zZ.pure ok hM (rv:=.int .i64 xs[i][j]) (by simp[Instr.loadAt,jE,loadVar,hr,qO]) ?_;show _=_;simp[List.getD,hi,k2]
    ·exact h.elim
  ·exact h.elim
 ·exact h.elim
theorem jZ h:∀u v,zX h (u++v)=zX (zX h u) v
 |[],_=>rfl
 |(id,o)::u,v=>jZ (qH h id o) u v
theorem Ep h id o:zX h [(id,o)]=qH h id o:=rfl
theorem qi {h id o}(e:h id=some o):qH h id o=h:=by
 funext n;by_cases hn:n=id
 ·subst hn;rw[qM];simp_all
 ·rw[qN _ _ hn]
theorem Er:∀vs cells off out,nh cells off vs=some out→
  (vs=[]∨off+vs.length≤cells.length)∧out=cells.take off++vs++cells.drop (off+vs.length)
 |[],cells,off,out,h=>by
  simp[nh] at h;simp_all
 |v::vs,cells,off,out,h=>by
  unfold nh at h;cases hb:Nat.blt off cells.length with
  |false=>simp_all
  |true=>
   rw[hb] at h;have aS:off<cells.length:=Nat.le_of_ble_eq_true hb;obtain⟨h1,h2⟩:=Er vs (cells.set off v) (off+1) out h;refine⟨by grind,?_⟩;have e1:(cells.set off v).take (off+1)=cells.take off++[v]:=by
    rw[List.take_succ_eq_append_getElem (by simp_all),List.take_set_of_le (by simp)];simp
   have e2:(cells.set off v).drop (off+1+vs.length)=cells.drop (off+(v::vs).length):=by
    rw[List.drop_set_of_lt (by omega)];grind
   simp_all
theorem zr {M v rv vs}(h:fO v=some vs)(hv:zK M v rv):zG (zM M) vs rv.cells.toList:=by
 unfold fO at h;split at h
 ·cases h;have h1:=zM.one hv;have:rv.cells=#[rv]:=by cases rv<;>first|rfl|cases h1
  rw[this];exact⟨hv,trivial⟩
 ·cases h;obtain⟨us,rfl,h⟩:=hv;exact h
 ·cases h
theorem Es {M}:∀{vs us},zG (zM M) vs us→∀u∈us,u.one1=true
 |[],[],_,_,h=>by cases h
 |_::_,u::us,hh,x,h=>by
  cases h with
  |head=>exact hh.1.one
  |tail _ h=>exact Es hh.2 x h
def eW (P:Program)(s:Sem Unit)(M:zE)(w:World)(u:qV):Prop:=
 ∃w' M',s.run P w=.ok () w'∧w'.os=w.os∧w'.tape=w.tape∧w'.output=w.output∧M'.H=w'.heap∧M'.h=zX M.h u∧Ok M'∧qU M M'
def qP (vals:Array Value)(off:Nat)(us:List Value):Array Value:=(vals.toList.take off++us++vals.toList.drop (off+us.length)).toArray
theorem wD {vals off us}(h:off+us.length≤vals.size):(qP vals off us).size=vals.size:=by
 simp[qP];omega
theorem vH {vals off us}(h:off+us.length≤vals.size) j:
  (qP vals off us)[j]? =if j<off then vals[j]? else if j<off+us.length then us[j-off]? else vals[j]? :=by
 simp[qP];grind
theorem fU {w:World}{B vals new e}(h:w.heap[B]? =some (.cells vals e (0,0)))(hs:new.size=vals.size):
  (w.setRow B new).heap.size=w.heap.size∧(w.setRow B new).heap[B]? =some (.cells new e (0,0))∧(∀b,b≠B→(w.setRow B new).heap[b]? =w.heap[b]?)∧
  (∀b,qE (w.setRow B new).heap b=qE w.heap b):=by
 have h1:=setRow_heap w B vals new e (0,0) h;have h2:∀b,b≠B→(w.setRow B new).heap[b]? =w.heap[b]? :=fun b hb=>setRow_other w B b new hb
 refine⟨by simp,h1,h2,fun b=>?_⟩;by_cases hb:b=B
 ·subst hb;simp[qE,h1,h];exact hs
 ·exact qe (h2 b hb)
theorem Et {P w t B off vals e rv}(h:w.heap[B]? =some (.cells vals e (0,0)))
  (hn:rv.cells.size=P.cellsOf t) (h0:0<P.cellsOf t) (ar:off+rv.cells.size≤vals.size) (h1:∀u∈rv.cells.toList,u.one1=true):
  (storeVar t ⟨B,off,none⟩ rv).run P w=.ok () (w.setRow B (qP vals off rv.cells.toList)):=by
 obtain⟨i,hi⟩:=fR h0;have dp:=run_storeCells_at (P:=P) B off e rv.cells.toList 0 vals w h (by omega) (fun v hv=>nx (h1 v hv));have:¬rv.cells.size≠P.cellsOf t:=by omega
 simp only[storeVar,Sem.run_bind,wP w hi,Result.andThen_ok,this];exact dp
theorem Eu {M M'}(x:qK M M'){cells vs vals us off}(h:zG (zM M) cells vals.toList)(hv:zG (zM M) vs us)
  (ar:off+us.length≤vals.size):zG (zM M') (cells.take off++vs++cells.drop (off+vs.length)) (qP vals off us).toList:=by
 have hl:=hv.length;rw[hl];exact((h.take off).append hv|>.append (h.drop _)).mono fun _ _ hc=>hc.ext x
def yX (h0 h:Hp):Prop:=∀id,h id=h0 id∨(∃own t xs,h0 id=some (.arr own t xs)∧h id=some (.arr false t xs))∨
 (∃ver xs,h0 id=some (.mat ver xs)∧h id=some (.arr false (.sl (.int .i64)) xs))
theorem yX.refl h:yX h h:=fun _=>.inl rfl
theorem ql {α}{xs:List α}{lo n}(h:lo+n≤xs.length):(yC xs lo n).length=n:=by
 simp[yC];omega
theorem zt {α}{xs:List α}{lo n i} h:∃h':lo+i<xs.length,(yC xs lo n)[i]=xs[lo+i]:=by
 have:lo+i<xs.length:=by simp[yC] at h;omega
 exact⟨this,by simp[yC]⟩
theorem N6 {H G C t xs lo n v}(bZ:C.sz=t.size)(hn:lo+n≤xs.length)(h:yY H C lo n v)
  (hx:match C.blk with
   |none=>xs=[]
   |some B=>G B∧∃vals e,H[B]? =some (.cells vals e (0,0))∧∀i h,zT H G t xs[i] (fun j=>vals[i*t.size+j]?)):
  zT H G (.sl t) (yC xs lo n) (fun _=>some v):=by
 obtain⟨A,c,rfl,h⟩:=h;cases hB:C.blk with
 |none=>
  rw[hB] at h hx;obtain⟨rfl,rfl,rfl⟩:=h;exact⟨none,0,0,rfl,by rfl,by simp,.inl ⟨by rfl,by simp⟩⟩
 |some B=>
  rw[hB] at h hx;obtain⟨hc,a,rfl,ha,ar⟩:=h;obtain⟨hG,vals,e,hv,hE⟩:=hx;have hl:=ql hn;refine⟨_,n,c,rfl,hl.symm,hc,?_⟩;by_cases h0:n=0
  ·simp_all
  ·refine .inr ⟨B,a,rfl,hG,fun i hi=>?_⟩;obtain⟨bU,e1⟩:=zt hi;have lH:a=lo*C.sz:=by omega
   have e2:(fun j=>qO H B (a+i*t.size+j))=fun j=>vals[(lo+i)*t.size+j]? :=by
    rw[lH,bZ,←Nat.add_mul];simp[qO,hv]
   simp_all
theorem N7 {α}(xs:List α):yC xs 0 xs.length=xs:=by simp[yC]
theorem ny {M t xs C id r v}(hC:M.κ id=some C)(hO:qR M (.arr false t xs) C)(h:zM M (.osl id r) v):
  zT M.H M.G (.sl t) (wU xs r) (fun _=>some v):=by
 obtain⟨h1,h2,h3,h4⟩:=hO;obtain⟨C',aj,h⟩:=h;rw[hC] at aj;cases aj;have hx:match C.blk with
   |none=>xs=[]
   |some B=>M.G B∧∃vals e,M.H[B]? =some (.cells vals e (0,0))∧∀i (h:i<xs.length),zT M.H M.G t xs[i] (fun j=>vals[i*t.size+j]?):=by
  grind
 cases r with
 |none=>
  have:=N6 (G:=M.G) h2 (lo:=0) (n:=C.len) (by omega) h hx;rw[h1,N7] at this;exact this
 |some p=>
  obtain⟨h5,h6,_⟩:=h;exact N6 (G:=M.G) h2 (by omega) h6 hx
theorem N8 {M}(ok:Ok M){id t xs}(ab:M.h id=some (.arr true t xs)):
  ∃M',M'.H=M.H∧M'.h=qH M.h id (.arr false t xs)∧Ok M'∧qU M M'∧M'.κ=M.κ:=by
 obtain⟨C,hC,hO⟩:=ok.obj id _ ab;have kq:qR (M.freeze id (.arr false t xs) C) (.arr false t xs) C:=by
  have x:qK M (M.freeze id (.arr false t xs) C):=⟨fun _ C h=>⟨C,h,C.le_refl⟩,fun _ h=>.inl h,fun _ h=>.inl h,fun _ _=>rfl,fun _ _=>rfl,fun _ _=>rfl⟩;obtain⟨h1,h2,h3,h4⟩:=hO.ext x fun _ _ _=>rfl
  refine⟨h1,h2,by simp,?_⟩;cases hB:C.blk with
  |none=>simp_all
  |some B=>
   rw[hB] at h4;obtain⟨vals,e,h5,h6,h7,h8⟩:=h4;exact⟨vals,e,h5,fun _=>.inr (by simp[zS.fp,hB]),h7,h8⟩
 have:=zE.freeze_ok ok ab rfl hC rfl kq;exact⟨M.freeze id _ C,rfl,rfl,this.1,this.2,rfl⟩
theorem N9 {M}(ok:Ok M){id t xs}(ab:M.h id=some (.arr true t xs)):
  ∃M',M'.H=M.H∧M'.h=qH M.h id (.arr false t xs)∧Ok M'∧qU M M':=by
 obtain⟨M',h1,h2,h3,h4,_⟩:=N8 ok ab;grind
theorem Oa {M}(ok:Ok M){id ver xs}(ab:M.h id=some (.mat ver xs)):
  ∃M',M'.H=M.H∧M'.h=qH M.h id (.arr false (.sl (.int .i64)) xs)∧Ok M'∧qU M M'∧M'.κ=M.κ:=by
 obtain⟨C,hC,hO⟩:=ok.obj id _ ab;have kq:qR (M.freeze id (.arr false (.sl (.int .i64)) xs) C) (.arr false (.sl (.int .i64)) xs) C:=by
  obtain⟨h1,h2,h3,h4,h5,h6⟩:=hO;refine⟨h2,h3,by simp,?_⟩;cases hB:C.blk with
  |none=>rw[hB] at h6;exact h6
  |some B=>
   rw[hB] at h6;obtain⟨vals,e,h7,h8,h9⟩:=h6;refine⟨vals,e,h7,fun _=>.inr (by simp[zS.fp,hB]),by simpa[Ty.size] using h8,fun i hi=>?_⟩;obtain⟨rb,v,k1,k2,k3,k4⟩:=h9 i hi;simp only[zT,Ty.size,Nat.mul_one,Nat.add_zero];cases rb with
   |none=>
    obtain⟨rfl,hl⟩:=k3;grind
   |some R=>
    obtain⟨a,c,rfl,hc,ha,hs⟩:=k3;obtain⟨rv,er,k5,k6⟩:=k4 R rfl;by_cases bI:xs[i]=[]
    ·grind
    have fz:a=0:=by
     have:0<xs[i].length:=by grind
     omega
    subst fz;refine⟨_,_,c,k2,rfl,hc,.inr ⟨R,0,rfl,.inr ?_,fun j hj=>?_⟩⟩
    ·simp only[zS.fp,List.mem_append];grind
    ·have e1:(M.freeze id (Obj.arr false (.sl (.int .i64)) xs) C).H=M.H:=rfl;simp[e1,qO,k5,Nat.zero_add];exact k6 j hj
 have:=zE.freeze_ok ok ab rfl hC rfl kq;exact⟨M.freeze id _ C,rfl,rfl,this.1,this.2,rfl⟩
theorem Ob {M}(ok:Ok M){id ver xs}(ab:M.h id=some (.mat ver xs)):
  ∃M',M'.H=M.H∧M'.h=qH M.h id (.arr false (.sl (.int .i64)) xs)∧Ok M'∧qU M M':=by
 obtain⟨M',h1,h2,h3,h4,_⟩:=Oa ok ab;grind
theorem uc {M}(ok:Ok M){h0}(hf:yX h0 M.h){c c' v u}(hc:zM M c v)(h:fQ h0 c=some (c',u)):
  ∃M',M'.H=M.H∧M'.h=zX M.h u∧Ok M'∧qU M M'∧zM M' c' v∧yX h0 M'.h∧(∀p∈u,p.2.owned=false):=by
 have aaa : c' = c → u = [] → _ := fun e1 e2 => (⟨M,rfl,by rw[e2];rfl,ok,qU.refl M,by simp_all,hf,by simp[e2]⟩:
  ∃M',M'.H=M.H∧M'.h=zX M.h u∧Ok M'∧qU M M'∧zM M' c' v∧yX h0 M'.h∧(∀p∈u,p.2.owned=false))
 cases c with
 |osl id r=>
  have key:∀(t:Ty) (xs:List t.den),(∀M',Ok M'→M'.h id=some (.arr false t xs)→zM M' (.osl id r) v→zM M' (.fsl true t (wU xs r)) v):=by
   intro t xs M' dC gH dY;obtain⟨C,hC,hO⟩:=dC.obj id _ gH;exact ny hC hO dY
  unfold fQ at h;simp only at h;split at h
  ·rename_i own t xs dZ;cases h;rcases hf id with e|⟨o2,t2,Ev,e1,e2⟩|⟨ver,Ev,e1,e2⟩
   ·rw[dZ] at e;cases own with
    |true=>
     obtain⟨M',h1,h2,dC,bc⟩:=N9 ok e;refine⟨M',h1,h2,dC,bc,key t xs M' dC (by rw[h2];exact qM _ _ _) (hc.ext bc.ext),fun n=>?_,by simp[Obj.owned]⟩;by_cases hn:n=id
     ·subst hn;exact .inr (.inl ⟨true,t,xs,dZ,by rw[h2];exact qM _ _ _⟩)
     ·rw[h2,qN _ _ hn];exact hf n
    |false=>exact⟨M,rfl,(qi e).symm,ok,qU.refl M,by grind,hf,by simp[Obj.owned]⟩
   ·rw[dZ] at e1;cases e1;exact⟨M,rfl,(qi e2).symm,ok,qU.refl M,by grind,hf,by simp[Obj.owned]⟩
   simp_all
  ·rename_i ver xs dZ;split at h
   ·cases h;rcases hf id with e|⟨o2,t2,Ev,e1,e2⟩|⟨aab,Ev,e1,e2⟩
    ·rw[dZ] at e;obtain⟨M',h1,h2,dC,bc⟩:=Ob ok e;refine⟨M',h1,h2,dC,bc,key (.sl (.int .i64)) xs M' dC (by rw[h2];exact qM _ _ _) (hc.ext bc.ext),fun n=>?_,by simp[Obj.owned]⟩;by_cases hn:n=id
     ·subst hn;exact .inr (.inr ⟨ver,xs,dZ,by rw[h2];exact qM _ _ _⟩)
     ·rw[h2,qN _ _ hn];exact hf n
    ·simp_all
    ·rw[dZ] at e1;cases e1;exact⟨M,rfl,(qi e2).symm,ok,qU.refl M,key (.sl (.int .i64)) xs M ok e2 hc,hf,by simp[Obj.owned]⟩
   ·cases h
  ·cases h
 |mrow _ _ _=>cases h
 |_=>cases h;simp_all
theorem Ew {h0}:∀{cs ay vs u M},Ok M→yX h0 M.h→zG (zM M) cs vs→fq h0 cs=some (ay,u)→
  ∃M',M'.H=M.H∧M'.h=zX M.h u∧Ok M'∧qU M M'∧zG (zM M') ay vs∧yX h0 M'.h∧(∀p∈u,p.2.owned=false)
 |[],ay,[],u,M,ok,hf,_,h=>by cases h;exact⟨M,rfl,rfl,ok,qU.refl M,trivial,hf,by simp⟩
 |c::cs,ay,v::vs,u,M,ok,hf,hc,h=>by
  unfold fq at h;split at h
  ·rename_i c1 u1 eX iK e1 e2;cases h;obtain⟨M1,a1,a2,a3,a4,a5,a6,a7⟩:=uc ok hf hc.1 e1;obtain⟨M2,b1,b2,b3,b4,b5,b6,b7⟩:=Ew a3 a6 (hc.2.mono fun _ _ k=>k.ext a4.ext) e2;refine⟨M2,b1.trans a1,by rw[b2,a2,jZ],b3,a4.trans b4,⟨a5.ext b4.ext,b5⟩,b6,fun p hp=>?_⟩;grind
  ·cases h
theorem dM {a b xs ys}(h:wG a b xs=some ys):∃e:a=b,e▸xs=ys:=by
 unfold wG at h;grind
theorem Ey {a b}(h:Nat.blt a b=true):a<b:=Nat.le_of_ble_eq_true h
theorem yFh {a b}(h:Nat.blt a b=false):¬a<b:=fun hh=>by
 have:Nat.blt a b=true:=Nat.ble_eq_true_of_le hh;simp_all
theorem Oc {k off c n}(h:DS k off c=some n):off=0∧c=.int k n:=by
 unfold DS at h;split at h
 ·rename_i j m;cases hb:vY j k with
  |false=>simp_all
  |true=>
   have:=ka hb;simp_all
 ·cases h
theorem Od {off c n}(h:DT off c=some n):off=0∧c=.bool n:=by
 unfold DT at h;grind
theorem Oe {t off c xs}(h:DU t off c=some xs):off=0∧(c=.fsl true t xs∨(c=.nsl∧xs=[])):=by
 unfold DU at h;split at h
 ·obtain⟨e,h⟩:=dM h;grind
 all_goals simp_all
theorem Of {a b p q off c}(h:kb (.pair a b) p off c=some q):
  (off<a.size∧kb a p.1 off c=some q.1∧q.2=p.2)∨(¬off<a.size∧kb b p.2 (off-a.size) c=some q.2∧q.1=p.1):=by
 simp[kb] at h;cases hb:Nat.blt off a.size with
 |true=>
  rw[hb] at h;split at h
  ·cases h;simp_all
  ·cases h
 |false=>
  rw[hb] at h;simp  at h;split at h
  ·rename_i x hx;cases h;exact .inr ⟨yFh hb,hx,rfl⟩
  ·cases h
theorem Og:∀{t x y off c},kb t x off c=some y→off<t.size
 |.int k,x,y,off,c,h=>by rw[(Oc h).1];simp[Ty.size]
 |.bool,x,y,off,c,h=>by rw[(Od h).1];simp[Ty.size]
 |.sl t,x,y,off,c,h=>by rw[(Oe h).1];simp[Ty.size]
 |.pair a b,x,y,off,c,h=>by
  simp[Ty.size];rcases Of h with⟨h1,_⟩|⟨h1,h2,_⟩
  ·omega
  ·have:=Og h2;omega
theorem Ez {M}:∀t x y off c u rd cN,zT M.H M.G t x rd→kb t x off c=some y→zM M c u→
  cN off=some u→(∀j,j≠off→j<t.size→cN j=rd j)→zT M.H M.G t y cN
 |.int k,x,y,off,c,u,rd,cN,hE,h,hc,hr,dX=>by
  obtain⟨rfl,rfl⟩:=Oc h;simp[zT];rw[hr,show u=_ from hc]
 |.bool,x,y,off,c,u,rd,cN,hE,h,hc,hr,dX=>by
  obtain⟨rfl,rfl⟩:=Od h;simp[zT];rw[hr,show u=_ from hc]
 |.sl t,x,y,off,c,u,rd,cN,hE,h,hc,hr,dX=>by
  obtain⟨rfl,rfl|⟨rfl,rfl⟩⟩:=Oe h
  ·have dY:zT M.H M.G (.sl t) y (fun _=>some u):=hc;refine qS (by simp) (by simp) _ _ _ _ (fun j hj=>?_) dY;simp[Ty.size] at hj;simp_all
  ·exact⟨none,0,0,by rw[hr,show u=_ from hc],rfl,by simp,by simp⟩
 |.pair a b,x,y,off,c,u,rd,cN,hE,h,hc,hr,dX=>by
  simp[Ty.size] at dX;rcases Of h with⟨h1,h2,h3⟩|⟨h1,h2,h3⟩
  ·refine⟨Ez a _ _ off c u rd cN hE.1 h2 hc hr (by grind),?_⟩;rw[h3];exact qS (by simp) (by simp) _ _ _ _ (by grind) hE.2
  ·refine⟨?_,Ez b _ _ (off-a.size) c u _ _ hE.2 h2 hc (by simp_all) (by grind)⟩;rw[h3];exact qS (by simp) (by simp) _ _ _ _ (by grind) hE.1
theorem Oh {t}:∀{vs x y off},kc t x off vs=some y→vs=[]∨off+vs.length≤t.size
 |[],_,_,_,_=>.inl rfl
 |v::vs,x,y,off,h=>by
  unfold kc at h;split at h
  ·rename_i z hz;have h1:=Og hz;rcases Oh h with rfl|h2
   all_goals grind
  ·cases h
theorem EA {M} t:∀vs us x y off rd cN,zT M.H M.G t x rd→kc t x off vs=some y→zG (zM M) vs us→
  (∀i,i<us.length→cN (off+i)=us[i]?)→(∀j,(j<off∨off+us.length≤j)→j<t.size→cN j=rd j)→zT M.H M.G t y cN
 |[],[],x,y,off,rd,cN,hE,h,_,_,dX=>by
  cases h;exact qS (by simp) (by simp) _ _ _ _ (by grind) hE
 |v::vs,u::us,x,y,off,rd,cN,hE,h,hc,hr,dX=>by
  unfold kc at h;split at h
  ·rename_i z hz;have h1:=Ez t x z off v u rd (fun j=>if j=off then some u else rd j) hE hz hc.1 (by simp) (by grind);refine EA t vs us z y (off+1) _ cN h1 h hc.2 (fun i hi=>?_) (fun j hj lI=>?_)
   ·have:=hr (i+1) (by simp;omega);grind
   ·by_cases e:j=off
    ·have:=hr 0 (by simp);simp_all
    grind
  ·cases h
theorem Oi {i k sz j:Nat}(h:i≠k)(hj:j<sz):k*sz+j<i*sz∨i*sz+sz≤k*sz+j:=by
 rcases Nat.lt_or_gt_of_ne h with h|h
 ·have:=Nat.mul_le_mul_right sz (show i+1≤k by omega);grind
 ·have:=Nat.mul_le_mul_right sz (show k+1≤i by omega);grind
theorem yN0 {C:zS}(hn:C.fp.Nodup){i k:Nat}{R R':Nat}{a b:Nat}(hi:C.rows[i]? =some (some R,a))(hk:C.rows[k]? =some (some R',b))(h:i≠k):R≠R':=by
 intro e;subst e;have qm:(C.rows.filterMap (·.1)).Nodup:=(List.nodup_append.1 hn).2.1;clear hn;have gen:∀(l:List (Option Nat×Nat)) (i k:Nat),i<k→l[i]? =some (some R,a)∨l[i]? =some (some R,b)→l[k]? =some (some R,b)∨l[k]? =some (some R,a)→(l.filterMap (·.1)).Nodup→False:=by
  intro l
  induction l with
  |nil=>intro i k _ h1 _ _;simp at h1
  |cons x l ih=>
   intro i k EB h1 h2 hn;obtain⟨k,rfl⟩:∃m,k=m+1:=⟨k-1,by omega⟩;have ud:R∈l.filterMap (·.1):=by
    simp only[List.getElem?_cons_succ] at h2;rcases h2 with h2|h2<;>exact List.mem_filterMap.2 ⟨_,List.mem_of_getElem? h2,rfl⟩
   cases i with
   |zero=>
    grind
   |succ i=>
    grind
 grind
theorem EC {C:zS}(hn:C.fp.Nodup){k R B b:Nat}(hk:C.rows[k]? =some (some R,b))(hB:C.blk=some B):R≠B:=by
 intro e;subst e;have:=(List.nodup_append.1 hn).2.2 R (by simp[hB]) R (by grind);omega
theorem vS {C:zS}{B}(h:C.blk=some B):B∈C.fp:=by simp[zS.fp,h]
theorem yL6 {C:zS}{k R b:Nat}(h:C.rows[k]? =some (some R,b)):R∈C.fp:=by
 simp[zS.fp];grind
theorem ED {P M w}(ok:Ok M)(hM:M.H=w.heap){t id o o' C B off vals e rv}
  (ab:M.h id=some o) (au:o.owned=true) (hC:M.κ id=some C) (hB:B∈C.fp) (hb:M.H[B]? =some (.cells vals e (0,0)))
  (hn:rv.cells.size=P.cellsOf t) (h0:0<P.cellsOf t) (ar:off+rv.cells.size≤vals.size) (h1:∀u∈rv.cells.toList,u.one1=true)
  (hO:∀M',M'.κ=κset M.κ id C→M'.F=M.F→M'.G=M.G→qK M M'→M'.H[B]? =some (.cells (qP vals off rv.cells.toList) e (0,0))→(∀b,b≠B→M'.H[b]? =M.H[b]?)→qR M' o' C):
  eW P (storeVar t ⟨B,off,none⟩ rv) M w [(id,o')]:=by
 have bn:w.heap[B]? =some (.cells vals e (0,0)):=by simp_all
 have hr:=Et (P:=P) bn hn h0 ar h1;obtain⟨f1,f2,f3,f4⟩:=fU bn (new:=qP vals off rv.cells.toList) (wD (by omega));have hH:∀b,b∉C.fp→(w.setRow B (qP vals off rv.cells.toList)).heap[b]? =M.H[b]? :=by grind
 have bK:∀b,b<M.H.size→qE (w.setRow B (qP vals off rv.cells.toList)).heap b=qE M.H b:=by grind
 have x:=zE.write_ext ok ab au hC C.le_refl hH bK o';have:=zE.write_ok ok ab au hC C.le_refl (by simp) (by rw[hM];exact f1) hH bK
  (hO (M.write id o' C _) rfl rfl rfl x f2 (fun b kr=>by rw[hM];exact f3 b kr))
 exact⟨_,_,hr,rfl,rfl,rfl,rfl,rfl,this.1,this.2⟩
theorem yCh {P M w}(ok:Ok M)(hM:M.H=w.heap){t id off cells aZ vs B C rv}
  (ab:M.h id=some (.box true cells)) (hC:M.κ id=some C) (hB:C.blk=some B) (ca:zG (zM M) vs rv.cells.toList) (hn:vs.length=P.cellsOf t) (h0:0<vs.length)
  (hp:nh cells off vs=some aZ):eW P (storeVar t ⟨B,off,none⟩ rv) M w [(id,.box true aZ)]:=by
 obtain⟨C',aj,hO⟩:=ok.obj id _ ab;rw[hC] at aj;cases aj;obtain⟨B',vals,e,k1,k2,k3,k4,k5⟩:=hO;rw[hB] at k1;cases k1;obtain⟨p1,p2⟩:=Er vs cells off aZ hp;have hl:vs.length=rv.cells.size:=by simpa using ca.length
 have ar:off+rv.cells.size≤vals.size:=by
  have:=k4.length;grind
 refine ED ok hM ab rfl hC (vS hB) k3 (by omega) (by omega) ar (Es ca) fun M' _ _ hG x h1 h2=>?_
 refine⟨B,_,e,hB,k2,h1,?_,by simp⟩;rw[p2];exact Eu x k4 ca (by omega)
theorem yPg {P M w}(ok:Ok M)(hM:M.H=w.heap){t id i off ty xs x vs B C rv}
  (ab:M.h id=some (.arr true ty xs)) (hC:M.κ id=some C) (hB:C.blk=some B) (hi:i<C.len) (ca:zG (zM M) vs rv.cells.toList) (hn:vs.length=P.cellsOf t) (h0:0<vs.length)
  (hp:kc ty (xs.getD i ty.dflt) off vs=some x):eW P (storeVar t ⟨B,i*C.sz+off,none⟩ rv) M w [(id,.arr true ty (xs.set i x))]:=by
 obtain⟨C',aj,hO⟩:=ok.obj id _ ab;rw[hC] at aj;cases aj;obtain⟨k1,k2,k3,k4⟩:=hO;rw[hB] at k4;obtain⟨vals,e,k5,k6,k7,k8⟩:=k4;have hl:vs.length=rv.cells.size:=by simpa using ca.length
 have aac:off+vs.length≤ty.size:=by
  rcases Oh hp with rfl|h
  ·simp at h0
  ·exact h
 have ue:i<xs.length:=by omega
 have e1:xs.getD i ty.dflt=xs[i]:=by simp[List.getD,ue]
 have aO:=Nat.mul_le_mul_right ty.size (show i+1≤xs.length by omega);rw[Nat.add_mul] at aO;have ar:i*C.sz+off+rv.cells.size≤vals.size:=by rw[k2];omega
 refine ED ok hM ab rfl hC (vS hB) k5 (by omega) (by omega) ar (Es ca) fun M' _ _ hG xt h1 h2=>?_
 refine⟨by simp_all,k2,k3,?_⟩;rw[hB];refine⟨_,e,h1,by simp,by rw[List.length_set,wD (by simpa using ar)];exact k7,fun k hk=>?_⟩;rw[List.length_set] at hk;have zu:=qS (F:=M.G) (F':=M'.G) xt.G xt.sameG ty _ _ _ (fun _ _=>rfl) (k8 k hk);by_cases e2:k=i
 ·subst e2;simp;refine EA ty vs rv.cells.toList xs[k] x off _ _ zu (by rw[←e1];exact hp) (ca.mono fun _ _ h=>h.ext xt) (fun j hj=>?_) (fun j hj lI=>?_)
  ·rw[vH (by simpa using ar),if_neg (by rw[k2];omega),if_pos (by grind),k2]
   congr 1;omega
  ·rw[vH (by simpa using ar)];grind
 ·rw[List.getElem_set_ne (by grind)];refine qS (by simp) (by simp) ty _ _ _ (fun j hj=>?_) zu;rw[vH (by simpa using ar)];rw[k2];rcases Oi (Ne.symm e2) hj with h|h
  all_goals grind
theorem yLp {P M w}(ok:Ok M)(hM:M.H=w.heap){t id i j ver xs n R rl C}
  (ab:M.h id=some (.mat ver xs)) (hC:M.κ id=some C) (hR:C.rows[i]? =some (some R,rl)) (hj:j<rl) (hn:1=P.cellsOf t):
  eW P (storeVar t ⟨R,j,none⟩ (.int .i64 n)) M w [(id,.mat ver (xs.set i ((xs.getD i []).set j n)))]:=by
 obtain⟨C',aj,hO⟩:=ok.obj id _ ab;rw[hC] at aj;cases aj;obtain⟨k1,k2,k3,k4,k5,k6⟩:=hO;have hi:i<xs.length:=by
  rw[←k4];rcases Nat.lt_or_ge i C.rows.length with h|h
  ·exact h
  ·rw[List.getElem?_eq_none h] at hR;cases hR
 cases hB:C.blk with
 |none=>rw[hB] at k6;subst k6;simp at hi
 |some B=>
  rw[hB] at k6;obtain⟨vals,e,k7,k8,k9⟩:=k6;obtain⟨rb,v,q1,q2,q3,q4⟩:=k9 i hi;rw[hR] at q1;cases q1;obtain⟨rv,er,q5,q6⟩:=q4 R rfl;have hRB:R≠B:=EC k5 hR hB;have lI:j<rv.size:=by
   have:=q6 j hj;rcases Nat.lt_or_ge j rv.size with h|h
   ·exact h
   ·rw[Array.getElem?_eq_none h] at this;cases this
  have e1:xs.getD i []=xs[i]:=by simp[List.getD,hi]
  refine ED ok hM ab rfl hC (yL6 hR) q5 (by rw[←hn];rfl) (by omega) (by show j+1≤rv.size;omega) (by intro u hu;simp[Value.cells] at hu;subst hu;rfl) fun M' _ _ hG x h1 h2=>?_
  refine⟨k1,by rw[List.length_set];exact k2,k3,by rw[List.length_set];exact k4,k5,?_⟩;rw[hB];refine⟨vals,e,by rw[h2 B (Ne.symm hRB)];exact k7,by rw[List.length_set];exact k8,fun k hk=>?_⟩;rw[List.length_set] at hk;by_cases e2:k=i
  ·subst e2;simp only[List.getElem_set_self,e1,List.length_set];refine⟨some R,v,hR,q2,q3.ext x,fun R' nz=>?_⟩;cases nz;refine⟨_,er,h1,fun m hm=>?_⟩;rw[vH (by show j+1≤rv.size;omega)];show(if m<j then rv[m]? else if m<j+1 then[Value.int .i64 n][m-j]? else rv[m]?)=_;grind
  ·rw[List.getElem_set_ne (Ne.symm e2)];obtain⟨gI,v',p1,p2,p3,p4⟩:=k9 k hk;refine⟨gI,v',p1,p2,p3.ext x,fun R' nz=>?_⟩;subst nz;obtain⟨kt,uf,p5,p6⟩:=p4 R' rfl;exact⟨kt,uf,by rw[h2 R' (yN0 k5 p1 hR e2)];exact p5,p6⟩
theorem zv {x}:∀(l:List (Option Nat×Nat)) i,(l.filterMap (·.1)).Nodup→(∀R,x.1=some R→R∉l.filterMap (·.1))→
  ((l.set i x).filterMap (·.1)).Nodup∧∀y∈(l.set i x).filterMap (·.1),y∈l.filterMap (·.1)∨x.1=some y
 |[],_,h,_=>by simp
 |a::l,0,h,hx=>by
  grind
 |a::l,i+1,h,hx=>by
  simp only[List.set_cons_succ];cases ha:a.1 with
  |none=>
   rw[List.filterMap_cons_none ha] at h hx⊢;rw[List.filterMap_cons_none ha];exact zv l i h hx
  |some z=>
   rw[List.filterMap_cons_some ha] at h hx⊢;obtain⟨h1,h2⟩:=List.nodup_cons.1 h;obtain⟨k1,k2⟩:=zv l i h2 fun R hR hm=>hx R hR (by grind)
   grind
def zE.absorb (M:zE)(id jd:Nat)(o:Obj)(C:zS)(H:Array Go.Obj):zE:={M with κ:=κset M.κ id C,h:=qH (qH M.h jd .gone) id o,H:=H}
theorem zE.absorb_ok {M}(ok:Ok M){id jd o oj o' C Cj C' H'}(ba:id≠jd)(ab:M.h id=some o)(au:o.owned=true)(hC:M.κ id=some C)
    (bR:M.h jd=some oj) (lJ:oj.owned=true) (cA:M.κ jd=some Cj) (hle:C.le C') (iJ:∀b∈C'.fp,b∈C.fp∨b∈Cj.fp) (bZ:H'.size=M.H.size)
    (hH:∀b,b∉C.fp→H'[b]? =M.H[b]?) (bK:∀b,b<M.H.size→qE H' b=qE M.H b)
    (hO:qK M (M.absorb id jd o' C' H')→qR (M.absorb id jd o' C' H') o' C'):Ok (M.absorb id jd o' C' H')∧qU M (M.absorb id jd o' C' H'):=by
  have lG:∀b,M.F b→b∉C.fp:=fun b hF hb=>(ok.own b ⟨id,o,C,ab,au,hC,hb⟩).1 hF
  have x:qK M (M.absorb id jd o' C' H'):=
    { κ:=fun n D h=>by
        by_cases e:n=id
        · subst e;rw[hC] at h;cases h;exact⟨C',κset_same _ _ _,hle⟩
        · exact⟨D,by simp only[zE.absorb];rw[κset_ne _ _ e];exact h,D.le_refl⟩
      F:=fun _ h=>h
      G:=fun _ h=>h
      same:=fun b h=>hH b (lG b h)
      sameG:=fun b h=>hH b (lG b (ok.GF b h))
      bsz:=bK}
  have bn:∀b∈C'.fp,qC M b:=fun b hb=>by
    rcases iJ b hb with hb|hb
    · exact⟨id,o,C,ab,au,hC,hb⟩
    · exact⟨jd,oj,Cj,bR,lJ,cA,hb⟩
  have bS:∀n q,n≠id→(M.absorb id jd o' C' H').h n=some q→q.owned=true→n≠jd∧M.h n=some q:=by
    intro n q e h1 h2;simp only[zE.absorb] at h1;rw[qN _ _ e] at h1;by_cases e':n=jd
    · subst e';rw[qM] at h1;cases h1;cases h2
    · rw[qN _ _ e'] at h1;simp_all
  have kn:∀b,qC (M.absorb id jd o' C' H') b→qC M b:=by
    rintro b ⟨n,q,D,h1,h2,h3,h4⟩
    by_cases e:n=id
    · subst e;simp only[zE.absorb,κset_same,Option.some.injEq] at h3;simp_all
    · obtain⟨e',nA⟩:=bS n q e h1 h2;simp only[zE.absorb] at h3;rw[κset_ne _ _ e] at h3;exact⟨n,q,D,nA,h2,h3,h4⟩
  refine⟨ok.build x (fun n=>n=id∨n=jd) (fun n hn=>?_) (fun n hn=>κset_ne _ _ (by grind)) ?_ ?_ (by simp only[zE.absorb];omega) ?_ ?_ ?_ ok.GF ?_,x,by simp only[zE.absorb];omega,?_,by grind,fun b h _=>.inl h,fun b h _=>.inl h⟩
  · simp only[zE.absorb];rw[qN _ _ (by grind),qN _ _ (by grind)]
  · intro n q D hn h1 h2 h3 b hb;exact hH b fun hc=>ok.disj n id q o D C b (by grind) h1 ab h2 au h3 hC hb hc
  · intro n q D hn h1 h2 h3 b hb;exact(ok.own b ⟨n,q,D,h1,h2,h3,hb⟩).1
  · rintro n q (rfl|rfl) h1
    · simp only[zE.absorb,qM,Option.some.injEq] at h1;subst h1;exact⟨C',κset_same _ _ _,hO x⟩
    · simp only[zE.absorb] at h1;rw[qN _ _ (Ne.symm ba),qM] at h1;cases h1;exact⟨Cj,by simp only[zE.absorb];rw[κset_ne _ _ (by grind)];omega,trivial⟩
  · rintro n (rfl|rfl) h1
    · simp only[zE.absorb,qM] at h1;cases h1
    · simp only[zE.absorb] at h1;rw[qN _ _ (by grind),qM] at h1;cases h1
  · rintro n q D b (rfl|rfl) h1 h2 h3 hb
    · simp only[zE.absorb,κset_same,Option.some.injEq] at h3;subst h3;have hbo:=ok.own b (bn b hb);refine⟨fun j qj Dj hj k1 k2 k3 k4=>?_,hbo.1,by simp only[zE.absorb];omega⟩;obtain⟨EE,qn⟩:=bS j qj hj k1 k2;simp only[zE.absorb] at k3;rw[κset_ne _ _ hj] at k3;rcases iJ b hb with hb|hb
      · exact ok.disj j n qj o Dj C b hj qn ab k2 au k3 hC k4 hb
      · exact ok.disj j jd qj oj Dj Cj b EE qn bR k2 lJ k3 cA k4 hb
    grind
  · intro b hb;have:=ok.Flt b hb;simp only[zE.absorb];omega
  · intro b hb hn;exact hH b fun hc=>hn ⟨id,o,C,ab,au,hC,hc⟩
theorem ug {M t xs C}(h:qR M (.arr true t xs) C):C.rows=[]∧C.fp=C.blk.toList:=by
 have:=h.2.2.1 rfl;exact⟨this,by simp[zS.fp,this]⟩
theorem EF {M}{ys:List Int}{C jd v}(hC:M.κ jd=some C)(hO:qR M (.arr true (.int .i64) ys) C)(hv:zM M (.osl jd none) v):
  eR M.H C.blk ys.length v∧∀R,C.blk=some R→∃rv er,M.H[R]? =some (.cells rv er (0,0))∧∀j (h':j<ys.length),rv[j]? =some (.int .i64 ys[j]):=by
 obtain⟨h1,h2,h3,h4⟩:=hO;obtain⟨C',aj,A,c,rfl,h⟩:=hv;rw[hC] at aj;cases aj;cases hB:C.blk with
 |none=>
  rw[hB] at h;obtain⟨rfl,e,rfl⟩:=h;exact⟨⟨by rw[e],by omega⟩,by simp⟩
 |some B=>
  rw[hB] at h h4;obtain⟨hc,a,rfl,ha,hs⟩:=h;obtain⟨vals,e,h5,h6,h7,h8⟩:=h4;refine⟨⟨a,c,by rw[h1],by omega,by omega,by simpa[h2,Ty.size] using hs⟩,fun R hR=>?_⟩;cases hR;refine⟨vals,e,h5,fun j hj=>?_⟩;have:=h8 j hj
  simpa[zT,Ty.size] using this
theorem yE2 {P M w}(ok:Ok M)(hM:M.H=w.heap){t id jd i ver xs}{ys:List Int}{B C rv}
  (ab:M.h id=some (.mat ver xs)) (hC:M.κ id=some C) (hB:C.blk=some B) (hi:i<C.len) (bR:M.h jd=some (.arr true (.int .i64) ys)) (hv:zM M (.osl jd none) rv) (hn:1=P.cellsOf t):
  eW P (storeVar t ⟨B,i,none⟩ rv) M w [(jd,.gone),(id,.mat (ver+1) (xs.set i ys))]:=by
 obtain⟨C',aj,hO⟩:=ok.obj id _ ab;rw[hC] at aj;cases aj;obtain⟨Cj,cA,fB⟩:=ok.obj jd _ bR;obtain⟨jr,jf⟩:=ug fB;have ba:id≠jd:=fun e=>by rw[e,bR] at ab;cases ab
 obtain⟨r1,r2⟩:=EF cA fB hv;obtain⟨k1,k2,k3,k4,k5,k6⟩:=hO;rw[hB] at k6;obtain⟨vals,e,k7,k8,k9⟩:=k6;have bn:w.heap[B]? =some (.cells vals e (0,0)):=by rw[←hM];exact k7
 have bC:=hv.one;have aq:rv.cells=#[rv]:=by cases rv<;>first|rfl|cases bC
 have ar:i+rv.cells.size≤vals.size:=by rw[aq];show i+1≤vals.size;omega
 have cf:i+rv.cells.toList.length≤vals.size:=by rw[Array.length_toList];exact ar
 have hr:=Et (P:=P) (t:=t) (off:=i) (rv:=rv) bn (by rw[aq];exact hn) (by omega) ar (by intro u hu;rw[aq] at hu;simp at hu;subst hu;exact bC);obtain⟨f1,f2,f3,f4⟩:=fU bn (new:=qP vals i rv.cells.toList) (wD cf);have ct:∀R,Cj.blk=some R→R∉C.fp:=fun R hR hm=>ok.disj id jd _ _ C Cj R ba ab bR rfl rfl hC cA hm (vS hR)
 have cc:=List.nodup_append.1 k5;obtain⟨s1,s2⟩:=zv (x:=(Cj.blk,ys.length)) C.rows i cc.2.1 (fun R hR hm=>ct R hR (by simp only[zS.fp,List.mem_append];exact .inr hm));let D:zS:={C with ver:=ver+1,rows:=C.rows.set i (Cj.blk,ys.length)};have nB:∀b∈D.fp,b∈C.fp∨b∈Cj.fp:=fun b hb=>by
  simp only[zS.fp,List.mem_append] at hb;rcases hb with hb|hb
  ·exact .inl (by simp only[zS.fp,List.mem_append];exact .inl hb)
  ·rcases s2 b hb with hb|hb
   ·exact .inl (by simp only[zS.fp,List.mem_append];exact .inr hb)
   ·exact .inr (vS hb)
 have nC:D.fp.Nodup:=by
  refine List.nodup_append.2 ⟨cc.1,s1,fun a ha b hb e=>?_⟩;subst e;rcases s2 a hb with hb|hb
  ·exact cc.2.2 a ha a hb rfl
  ·exact ct a hb (by simp only[zS.fp,List.mem_append];exact .inl ha)
 have:=zE.absorb_ok (H':=(w.setRow B (qP vals i rv.cells.toList)).heap) (o':=.mat (ver+1) (xs.set i ys)) (C':=D) ok ba ab rfl hC bR rfl cA ⟨rfl,rfl,rfl,by show C.ver≤ver+1;omega,by grind⟩ nB
  (by rw [hM]; exact f1) (fun b kr => by rw [hM]; exact f3 b fun e => kr (e ▸ vS hB)) (fun b _ => by rw [hM]; exact f4 b) (fun x=>by
   refine⟨rfl,by rw[List.length_set];exact k2,k3,by simp only[D,List.length_set];exact k4,nC,?_⟩;have EG:D.blk=some B:=hB;rw[EG];refine⟨_,e,f2,by rw[List.length_set,wD cf];exact k8,fun k hk=>?_⟩;rw[List.length_set] at hk;by_cases e2:k=i
   ·subst e2;simp only[List.getElem_set_self];refine⟨Cj.blk,rv,?_,?_,r1.ext x,fun R hR=>?_⟩
    ·simp only[D];rw[List.getElem?_set_self (by omega)]
    ·rw[vH cf,if_neg (by omega),if_pos (by rw[aq];show k<k+1;omega),aq];simp
    ·obtain⟨kt,er,q5,q6⟩:=r2 R hR;refine⟨kt,er,?_,q6⟩;have:R≠B:=fun e=>ct R hR (e▸vS hB)
     show(w.setRow B _).heap[R]? =_;rw[f3 R this,←hM];exact q5
   ·rw[List.getElem_set_ne (Ne.symm e2)];obtain⟨gI,v',p1,p2,p3,p4⟩:=k9 k hk;refine⟨gI,v',?_,?_,p3.ext x,fun R' nz=>?_⟩
    ·simp only[D];rw[List.getElem?_set_ne (Ne.symm e2)];exact p1
    ·rw[vH cf,aq];show(if k<i then vals[k]? else if k<i+1 then _ else vals[k]?)=_;split
     ·exact p2
     ·rw[if_neg (by omega)];exact p2
    ·subst nz;obtain⟨kt,uf,p5,p6⟩:=p4 R' rfl;refine⟨kt,uf,?_,p6⟩;have:R'≠B:=EC k5 p1 hB;show(w.setRow B _).heap[R']? =_;rw[f3 R' this,←hM];exact p5)
 exact⟨_,_,hr,rfl,rfl,rfl,rfl,rfl,this.1,this.2⟩
theorem yI4 {P M w}(ok:Ok M)(hM:M.H=w.heap){t id jd ver n xs}{ys:List Int}{B C rv}
  (ab:M.h id=some (.pmat ver xs n)) (hC:M.κ id=some C) (hB:C.blk=some B) (hi:xs.length<C.len) (bR:M.h jd=some (.arr true (.int .i64) ys)) (hv:zM M (.osl jd none) rv) (hn:1=P.cellsOf t):
  eW P (storeVar t ⟨B,xs.length,none⟩ rv) M w [(jd,.gone),(id,.pmat (ver+1) (xs++[ys]) n)]:=by
 obtain⟨C',aj,hO⟩:=ok.obj id _ ab;rw[hC] at aj;cases aj;obtain⟨Cj,cA,fB⟩:=ok.obj jd _ bR;obtain⟨jr,jf⟩:=ug fB;have ba:id≠jd:=fun e=>by rw[e,bR] at ab;cases ab
 obtain⟨r1,r2⟩:=EF cA fB hv;obtain⟨k1,k2,k3,k4,k5,k0,k6⟩:=hO;rw[hB] at k6;obtain⟨vals,e,k7,k8,k9⟩:=k6;have bn:w.heap[B]? =some (.cells vals e (0,0)):=by rw[←hM];exact k7
 have bC:=hv.one;have aq:rv.cells=#[rv]:=by cases rv<;>first|rfl|cases bC
 have ar:xs.length+rv.cells.size≤vals.size:=by rw[aq];show xs.length+1≤vals.size;omega
 have cf:xs.length+rv.cells.toList.length≤vals.size:=by rw[Array.length_toList];exact ar
 have hr:=Et (P:=P) (t:=t) (off:=xs.length) (rv:=rv) bn (by rw[aq];exact hn) (by omega) ar (by intro u hu;rw[aq] at hu;simp at hu;subst hu;exact bC);obtain⟨f1,f2,f3,f4⟩:=fU bn (new:=qP vals xs.length rv.cells.toList) (wD cf);have ct:∀R,Cj.blk=some R→R∉C.fp:=fun R hR hm=>ok.disj id jd _ _ C Cj R ba ab bR rfl rfl hC cA hm (vS hR)
 have cc:=List.nodup_append.1 k5;have EH:(C.rows++[(Cj.blk,ys.length)]).filterMap (·.1)=C.rows.filterMap (·.1)++Cj.blk.toList:=by
  rw[List.filterMap_append];cases Cj.blk<;>simp
 have s1:((C.rows++[(Cj.blk,ys.length)]).filterMap (·.1)).Nodup:=by
  rw[EH];refine List.nodup_append.2 ⟨cc.2.1,by cases Cj.blk<;>simp,fun x hx y hy e=>?_⟩;subst e;have:Cj.blk=some x:=by simpa using hy
  exact ct x this (by simp only[zS.fp,List.mem_append];exact .inr hx)
 have s2:∀y∈(C.rows++[(Cj.blk,ys.length)]).filterMap (·.1),y∈C.rows.filterMap (·.1)∨Cj.blk=some y:=by simp
 let D:zS:={C with ver:=ver+1,rows:=C.rows++[(Cj.blk,ys.length)]};have nB:∀b∈D.fp,b∈C.fp∨b∈Cj.fp:=fun b hb=>by
  simp only[zS.fp,List.mem_append] at hb;rcases hb with hb|hb
  ·exact .inl (by simp only[zS.fp,List.mem_append];exact .inl hb)
  ·rcases s2 b hb with hb|hb
   ·exact .inl (by simp only[zS.fp,List.mem_append];exact .inr hb)
   ·exact .inr (vS hb)
 have nC:D.fp.Nodup:=by
  refine List.nodup_append.2 ⟨cc.1,s1,fun a ha b hb e=>?_⟩;subst e;rcases s2 a hb with hb|hb
  ·exact cc.2.2 a ha a hb rfl
  ·exact ct a hb (by simp only[zS.fp,List.mem_append];exact .inl ha)
 have:=zE.absorb_ok (H':=(w.setRow B (qP vals xs.length rv.cells.toList)).heap) (o':=.pmat (ver+1) (xs++[ys]) n) (C':=D) ok ba ab rfl hC bR rfl cA ⟨rfl,rfl,rfl,by show C.ver≤ver+1;omega,fun e=>by have:ver+1=C.ver:=e;omega⟩ nB
  (by rw [hM]; exact f1) (fun b kr => by rw [hM]; exact f3 b fun e => kr (e ▸ vS hB)) (fun b _ => by rw [hM]; exact f4 b) (fun x=>by
   refine⟨rfl,k2,k3,by simp only[D,List.length_append,k4];rfl,nC,by simp;omega,?_⟩;have EG:D.blk=some B:=hB;rw[EG];refine⟨_,e,f2,by rw[wD cf];exact k8,fun k hk=>?_⟩;rw[List.length_append,List.length_singleton] at hk;by_cases e2:k=xs.length
   ·subst e2;simp only[List.getElem_concat_length];refine⟨Cj.blk,rv,?_,?_,r1.ext x,fun R hR=>?_⟩
    ·simp only[D];rw[List.getElem?_append_right (by omega),k4];simp
    ·rw[vH cf,if_neg (by omega),if_pos (by rw[aq];show xs.length<xs.length+1;omega),aq];simp
    ·obtain⟨kt,er,q5,q6⟩:=r2 R hR;refine⟨kt,er,?_,q6⟩;have:R≠B:=fun e=>ct R hR (e▸vS hB)
     show(w.setRow B _).heap[R]? =_;rw[f3 R this,←hM];exact q5
   ·have zw:k<xs.length:=by omega
    rw[List.getElem_append_left zw];obtain⟨gI,v',p1,p2,p3,p4⟩:=k9 k zw;refine⟨gI,v',?_,?_,p3.ext x,fun R' nz=>?_⟩
    ·simp only[D];rw[List.getElem?_append_left (by omega)];exact p1
    ·rw[vH cf,aq];rw[if_pos zw];exact p2
    ·subst nz;obtain⟨kt,uf,p5,p6⟩:=p4 R' rfl;refine⟨kt,uf,?_,p6⟩;have:R'≠B:=EC k5 p1 hB;show(w.setRow B _).heap[R']? =_;rw[f3 R' this,←hM];exact p5)
 exact⟨_,_,hr,rfl,rfl,rfl,rfl,rfl,this.1,this.2⟩
theorem zx h {n}:∀{u},(u.any fun p=>Nat.beq p.1 n)=false→zX h u n=h n
 |[],_=>rfl
 |(id,o)::u,hu=>by
  simp only[List.any_cons,Bool.or_eq_false_iff] at hu;have:n≠id:=fun e=>by simp_all
  show zX (qH h id o) u n=h n;rw[zx (qH h id o) hu.2,qN _ _ this]
theorem yGa {P M w}(ok:Ok M)(hM:M.H=w.heap){t a v r u ra rv}(ha:zK M a ra)(hv:zK M v rv)
  (h:qJ (pN P M.h t a v) r u):r=.undef∧eW P (Instr.storeAt t ra rv) M w u:=by
 unfold pN at h;split at h
 ·exact h.elim
 ·rename_i vs ca;have bW:=zr ca hv;cases hb:(Nat.beq vs.length (P.cellsOf t)&&Nat.blt 0 vs.length) with
  |false=>rw[hb] at h;exact h.elim
  |true=>
   rw[hb] at h;simp only[Bool.and_eq_true] at hb;have hn:=Nat.eq_of_beq_eq_true hb.1;have h0:=Ey hb.2;split at h
   ·split at h
    ·rename_i cells ab;split at h
     ·rename_i aZ hp;obtain⟨_,rfl,rfl⟩:=wE h;obtain⟨C,B,hC,hB,rfl⟩:=ha;have:=yCh (P:=P) ok hM (t:=t) ab hC hB bW hn h0 hp
      simpa[Instr.storeAt,eW,jE] using this
     ·exact h.elim
    ·exact h.elim
   ·rename_i id i off;split at h
    ·rename_i ty xs EI u' ab qo;split at h
     ·rename_i x hp;cases hu:(u'.any fun p=>Nat.beq p.1 id) with
      |true=>rw[hu] at h;exact h.elim
      |false=>
      rw[hu] at h;obtain⟨_,rfl,rfl⟩:=wE h;refine⟨rfl,?_⟩;obtain⟨M1,a1,a2,a3,a4,a5,a6,a7⟩:=Ew ok (yX.refl _) bW qo;obtain⟨C,B,hC,hB,hi,hra⟩:=zM.ext (c:=.eptr id i off) a4.ext ha;have gJ:M1.h id=some (.arr true ty xs):=by rw[a2,zx M.h hu];exact ab
      have Oj:=a5.length;have Ol:=bW.length;obtain⟨w',M',b1,b2,b3,b4,b5,b6,b7,b8⟩:=yPg (P:=P) a3 (a1.trans hM) (t:=t) gJ hC hB hi a5 (by omega) (by omega) hp;subst hra;exact⟨w',M',by simpa[Instr.storeAt,jE] using b1,b2,b3,b4,b5,by rw[b6,a2,jZ],b7,a4.trans b8⟩
     ·exact h.elim
    ·exact h.elim
   ·split at h
    ·rename_i ver xs jd ab;split at h
     ·rename_i ys bR;obtain⟨_,rfl,rfl⟩:=wE h;obtain⟨C,B,hC,hB,hi,rfl⟩:=ha;have:=yE2 (P:=P) ok hM (t:=t) ab hC hB hi bR hv (by cases ca;exact hn)
      simpa[Instr.storeAt,eW,jE] using this
     ·exact h.elim
    ·rename_i ver xs n jd ab;split at h
     ·rename_i ys bR;obtain⟨ue,rfl,rfl⟩:=wE h;obtain⟨C,B,hC,hB,hi,rfl⟩:=ha;have ue:=Nat.eq_of_beq_eq_true ue;subst ue;have:=yI4 (P:=P) ok hM (t:=t) ab hC hB hi bR hv (by cases ca;exact hn)
      simpa[Instr.storeAt,eW,jE] using this
     ·exact h.elim
    ·exact h.elim
   ·rename_i id i j ver;split at h
    ·rename_i v' xs n ab;cases ef:Nat.beq v' ver with
     |false=>rw[ef] at h;exact h.elim
     |true=>
     rw[ef] at h;have e:=Nat.eq_of_beq_eq_true ef;subst e;obtain⟨_,rfl,rfl⟩:=wE h;obtain⟨C,hC,h1,hle,hm⟩:=ha;obtain⟨C',aj,hO⟩:=ok.obj _ _ ab;rw[hC] at aj;cases aj;obtain⟨R,rl,k1,k2,rfl⟩:=hm hO.1;have gK:rv=.int .i64 n:=hv;subst gK;have:=yLp (P:=P) ok hM (t:=t) (n:=n) ab hC k1 k2 (by cases ca;exact hn)
     simpa[Instr.storeAt,eW,jE] using this
    ·exact h.elim
   ·exact h.elim
theorem vW {c s v u}(h:qJ (bif c then s else .stuck) v u):c=true∧qJ s v u:=by
 cases c with
 |true=>simp_all
 |false=>exact h.elim
theorem zy {c s v u}(h:qJ (bif c then .stuck else s) v u):c=false∧qJ s v u:=by
 cases c with
 |false=>simp_all
 |true=>exact h.elim
theorem zz {a b:Nat}(h:Nat.beq a b=false):a≠b:=fun e=>by simp_all
theorem qp {i n}(h:zC i n=true):0≤i∧i<n∧i.toNat<n:=by
 simp[zC] at h;omega
theorem uh {i mk}:∀{n j v u},zl (pL i mk j n) v u→∃k,j≤k∧k<j+n∧i=(k:Int)∧v=.c (mk k)∧u=[]
 |n+1,j,v,u,h=>by
  rcases h with⟨h1,h2,h3⟩|⟨_,h⟩
  ·grind
  ·obtain⟨k,k1,k2,k3⟩:=uh h;grind
theorem yHn {P M w}(ok:Ok M)(hM:M.H=w.heap){s a v f u ra}(ha:zK M a ra)
  (h:qJ (D3 P s a f) v u):zZ P (Instr.fieldAt s ra f) M w v u:=by
 unfold D3 at h;split at h
 ·rename_i fs hs;split at h
  ·rename_i fd hf;obtain⟨hz,h⟩:=zy h;have hz:=zz hz;obtain⟨i,hi⟩:=fR (P:=P) (t:=fd.type) (by omega);have hr:∀B o,(Instr.fieldAt s (.pointer (some ⟨B,o,none⟩)) f).run P w=.ok (.pointer (some ⟨B,o+fd.offset,none⟩)) w:=by
    simp[Instr.fieldAt,run_underlying hs,hf,jE,fieldPlace,wP w hi,hz,Addr.add_lit]
   split at h
   ·obtain⟨rfl,rfl⟩:=yM h;obtain⟨C,B,hC,hB,rfl⟩:=ha;exact zZ.pure ok hM (hr _ _) ⟨C,B,hC,hB,rfl⟩
   ·obtain⟨rfl,rfl⟩:=yM h;obtain⟨C,B,hC,hB,hi,rfl⟩:=ha;exact zZ.pure ok hM (hr _ _) ⟨C,B,hC,hB,hi,by grind⟩
   ·obtain⟨rfl,rfl⟩:=yM h;obtain⟨B,o,rfl,hB,hE⟩:=ha;exact zZ.pure ok hM (hr _ _) ⟨B,o,by grind,hB,hE⟩
   ·exact h.elim
  ·exact h.elim
 ·exact h.elim
theorem ui {P w t e A}{n c:Nat}{k}{i:Int}{B o}(hu:P.underlying t=some (.slice e))(h0:0≤i)(h1:i<n)(he:0<P.cellsOf e)
  (hA:A=some ⟨B,o,none⟩):(Instr.indexAt t (.slice A n c) (.int k i)).run P w=.ok (.pointer (some ⟨B,o+i.toNat*P.cellsOf e,none⟩)) w:=by
 obtain⟨x,hx⟩:=fR he;subst hA;simp[Instr.indexAt,asIntOf,run_underlying hu,h0,h1,wP w hx,Addr.add_lit]
theorem yRi {P M w}(ok:Ok M)(hM:M.H=w.heap){t x i v u rx ri}(hx:zK M x rx)(hi:zK M i ri)
  (h:qJ (pO P M.h t x i) v u):zZ P (Instr.indexAt t rx ri) M w v u:=by
 unfold pO at h;split at h
 ·rename_i e c k n hu;have eg:ri=.int k n:=hi;subst eg;split at h
  ·rename_i sh ty xs;obtain⟨hz,h⟩:=vW h;have hz:=Nat.eq_of_beq_eq_true hz;obtain⟨hb,rfl,rfl⟩:=dW h;obtain⟨b0,b1,b2⟩:=qp hb;have nD:zT M.H (bif sh then M.G else M.F) (.sl ty) xs (fun _=>some rx):=hx;simp only[zT,Option.some.injEq] at nD;obtain⟨A,m,c,rfl,rfl,hc,nD⟩:=nD;rcases nD with⟨rfl,_⟩|⟨B,o,rfl,hB,hE⟩
   ·simp at b2
   ·refine zZ.pure ok hM (ui hu b0 b1 (by rw[hz];exact ty.size_pos) rfl) ⟨B,o+n.toNat*P.cellsOf e,rfl,hB,?_⟩;have e1:xs.getD n.toNat ty.dflt=xs[n.toNat]:=by simp[List.getD,b2]
    rw[e1,hz];exact hE _ b2
  ·rename_i id r;split at h
   ·rename_i own ty xs ab;obtain⟨hz,h⟩:=vW h;have hz:=Nat.eq_of_beq_eq_true hz;obtain⟨C,hC,hS⟩:=hx;obtain⟨C',aj,hO⟩:=ok.obj _ _ ab;rw[hC] at aj;cases aj;have hlen:=hO.1;have bZ:=hO.2.1;have key:∀lo m,lo+m≤C.len→yY M.H C lo m rx→0≤n→n<(m:Int)→∃B,C.blk=some B∧(Instr.indexAt t rx (.int k n)).run P w=.ok (.pointer (some ⟨B,(lo+n.toNat)*C.sz+0,none⟩)) w:=by
     intro lo m hm uj n0 n1;clear hS;obtain⟨A,c,rfl,hS⟩:=uj;cases hB:C.blk with
     |none=>rw[hB] at hS;obtain⟨_,rfl,_⟩:=hS;omega
     |some B=>
      rw[hB] at hS;obtain⟨hc,a,hA,ha,_⟩:=hS;refine⟨B,rfl,?_⟩;rw[ui hu n0 n1 (by rw[hz];exact ty.size_pos) hA];have:a=lo*C.sz:=by rcases ha with ha|ha<;>omega
      rw[this,hz,bZ,Nat.add_mul];rfl
    split at h
    ·obtain⟨hb,rfl,rfl⟩:=dW h;obtain⟨b0,b1,b2⟩:=qp hb;obtain⟨B,hB,hr⟩:=key 0 C.len (by omega) hS b0 (by omega);rw[Nat.zero_add] at hr;exact zZ.pure ok hM hr ⟨C,B,hC,hB,by omega,rfl⟩
    ·obtain⟨hb,rfl,rfl⟩:=dW h;obtain⟨b0,b1,b2⟩:=qp hb;obtain⟨B,hB,hr⟩:=key _ _ hS.1 hS.2.1 b0 b1;exact zZ.pure ok hM hr ⟨C,B,hC,hB,by have:=hS.1;omega,rfl⟩
   ·rename_i ver xs ab;obtain⟨hz,h⟩:=vW h;have hz:=Nat.eq_of_beq_eq_true hz;split at h
    ·obtain⟨hb,rfl,rfl⟩:=dW h;obtain⟨b0,b1,b2⟩:=qp hb;obtain⟨C,hC,hS⟩:=hx;obtain⟨C',aj,hO⟩:=ok.obj _ _ ab;rw[hC] at aj;cases aj;have hlen:=hO.2.1;obtain⟨A,c,rfl,hS⟩:=hS;cases hB:C.blk with
     |none=>rw[hB] at hS;obtain⟨_,h0,_⟩:=hS;omega
     |some B=>
      rw[hB] at hS;obtain⟨hc,a,hA,ha,_⟩:=hS;have:a=0:=by rcases ha with ha|ha<;>omega
      have hr:=ui (P:=P) (w:=w) (c:=c) (k:=k) hu b0 (show n<(C.len:Int) by omega) (by omega) hA;rw[this,hz,Nat.zero_add,Nat.mul_one] at hr;exact zZ.pure ok hM hr ⟨C,B,hC,hB,by omega,rfl⟩
    ·exact h.elim
   ·rename_i ver xs m ab;obtain⟨hz,h⟩:=vW h;have hz:=Nat.eq_of_beq_eq_true hz;split at h
    ·obtain⟨hb,rfl,rfl⟩:=dW h;obtain⟨b0,b1,b2⟩:=qp hb;obtain⟨C,hC,hS⟩:=hx;obtain⟨C',aj,hO⟩:=ok.obj _ _ ab;rw[hC] at aj;cases aj;have hlen:=hO.2.1;obtain⟨A,c,rfl,hS⟩:=hS;cases hB:C.blk with
     |none=>rw[hB] at hS;obtain⟨_,h0,_⟩:=hS;omega
     |some B=>
      rw[hB] at hS;obtain⟨hc,a,hA,ha,_⟩:=hS;have:a=0:=by rcases ha with ha|ha<;>omega
      have hr:=ui (P:=P) (w:=w) (c:=c) (k:=k) hu b0 (show n<(C.len:Int) by omega) (by omega) hA;rw[this,hz,Nat.zero_add,Nat.mul_one] at hr;exact zZ.pure ok hM hr ⟨C,B,hC,hB,by omega,rfl⟩
    ·exact h.elim
   ·exact h.elim
  ·rename_i id j ver;obtain⟨hz,h⟩:=vW h;have hz:=Nat.eq_of_beq_eq_true hz;split at h
   ·rename_i v' xs ab;obtain⟨hv,h⟩:=vW h;have hv:=Nat.eq_of_beq_eq_true hv;subst hv;obtain⟨hb,rfl,rfl⟩:=dW h;obtain⟨b0,b1,b2⟩:=qp hb;obtain⟨C,hC,h1,hle,hm⟩:=hx;obtain⟨C',aj,hO⟩:=ok.obj _ _ ab;rw[hC] at aj;cases aj;obtain⟨rb,rl,k1,k2⟩:=hm hO.1;have hj:j<xs.length:=by
     rw[←hO.2.2.2.1];rcases Nat.lt_or_ge j C.rows.length with h|h
     ·exact h
     ·rw[List.getElem?_eq_none h] at k1;cases k1
    obtain⟨B,gI,x',q0,qv,q1,q2,q3,q4⟩:=qh hO hj;rw[k1] at q1;cases q1;have e1:xs.getD j []=xs[j]:=by simp[List.getD,hj]
    rw[e1] at b1 b2;cases rb with
    |none=>obtain⟨_,h0⟩:=k2;omega
    |some R=>
     obtain⟨a,c,rfl,hc,ha,_⟩:=k2;have:a=0:=by rcases ha with ha|ha<;>omega
     subst this;have hr:=ui (P:=P) (w:=w) (c:=c) (k:=k) (A:=some ⟨R,0,none⟩) hu b0 b1 (by omega) rfl;rw[hz,Nat.zero_add,Nat.mul_one] at hr;exact zZ.pure ok hM hr ⟨C,hC,rfl,hle,by grind⟩
   ·exact h.elim
  ·exact h.elim
 ·rename_i m e id off k n hu;have eg:ri=.int k n:=hi;subst eg;obtain⟨hz,h⟩:=zy h;have hz:=zz hz;obtain⟨j,j1,j2,rfl,rfl,rfl⟩:=uh h;obtain⟨C,B,hC,hB,rfl⟩:=hx;obtain⟨y,hy⟩:=fR (P:=P) (t:=e) (by omega);refine zZ.pure ok hM (rv:=.pointer (some ⟨B,off+j*P.cellsOf e,none⟩)) ?_ ⟨C,B,hC,hB,rfl⟩;have:(j:Int)<m:=by omega
  have h':¬m≤j:=by omega
  simp[Instr.indexAt,asIntOf,run_underlying hu,jE,this,h',wP w hy,Addr.add_lit]
 ·rename_i m e id q off k n hu;have eg:ri=.int k n:=hi;subst eg;obtain⟨hz,h⟩:=zy h;have hz:=zz hz;obtain⟨j,j1,j2,rfl,rfl,rfl⟩:=uh h;obtain⟨C,B,hC,hB,hq,rfl⟩:=hx;obtain⟨y,hy⟩:=fR (P:=P) (t:=e) (by omega);refine zZ.pure ok hM (rv:=.pointer (some ⟨B,_+j*P.cellsOf e,none⟩)) ?_ ⟨C,B,hC,hB,hq,by rw[Nat.add_assoc]⟩;have:(j:Int)<m:=by omega
  have h':¬m≤j:=by omega
  simp[Instr.indexAt,asIntOf,run_underlying hu,jE,this,h',wP w hy,Addr.add_lit]
 ·rename_i m e sh t x off k n hu;have eg:ri=.int k n:=hi;subst eg;obtain⟨hz,h⟩:=zy h;have hz:=zz hz;obtain⟨j,j1,j2,rfl,rfl,rfl⟩:=uh h;obtain⟨B,o,rfl,hB,hE⟩:=hx;obtain⟨y,hy⟩:=fR (P:=P) (t:=e) (by omega);refine zZ.pure ok hM (rv:=.pointer (some ⟨B,_+j*P.cellsOf e,none⟩)) ?_ ⟨B,o,by rw[Nat.add_assoc],hB,hE⟩;have:(j:Int)<m:=by omega
  have h':¬m≤j:=by omega
  simp[Instr.indexAt,asIntOf,run_underlying hu,jE,this,h',wP w hy,Addr.add_lit]
 ·exact h.elim
theorem Om {M cs}{us:Array Value}{off n vs}(h:zG (zM M) cs us.toList)(hc:eO cs off n=some vs):zG (zM M) vs (us.extract off (off+n)).toList:=by
 obtain⟨h1,rfl,h2⟩:=ub hc;have:=(h.drop off).take n;simp_all
theorem On {P M w t cs us off vs v}(h:zG (zM M) cs us.toList)
  (hc:eO cs off (P.cellsOf t)=some vs) (hp:iE (vI P t) vs=some v):∃rv,(part t us off).run P w=.ok rv w∧zK M v rv:=by
 have aL:=Om h hc;obtain⟨h1,h2,h3⟩:=ub hc;have hl:=h.length;rcases Eo hp with⟨cr,rfl⟩|⟨cr,c,rfl,rfl⟩
 ·obtain⟨⟨d,hd⟩,hr⟩:=ko (P:=P) w cr;obtain⟨i,hi⟩:=zm hd;exact⟨.agg (us.extract off (off+P.cellsOf t)),by simp[part,hr,wP w hi],_,rfl,aL⟩
 ·obtain⟨⟨d,hd⟩,hr⟩:=ko (P:=P) w cr;simp  at h3;have aS:off<us.size:=by grind
  have EJ:off<cs.length:=by omega
  refine⟨us[off],by simp[part,hr,aS],?_⟩;have e:cs[off]=c:=by
   have:=congrArg (·[0]?) h2;grind
  have:=h.get off EJ (by omega);show zM M c us[off];simp_all
theorem yHc {P M w}(ok:Ok M)(hM:M.H=w.heap){s x v f u rx}(hx:zK M x rx)
  (h:qJ (D6 P s x f) v u):zZ P (Instr.field s rx f) M w v u:=by
 unfold D6 at h;split at h
 ·rename_i fs cs hs;split at h
  ·rename_i fd hf;split at h
   ·rename_i vs hc;obtain⟨h',rfl⟩:=El h;obtain⟨us,rfl,fT⟩:=hx;obtain⟨rv,hr,hv⟩:=On (P:=P) (w:=w) fT hc h';exact zZ.pure ok hM (by simp[Instr.field,run_underlying hs,hf,asAgg,hr]) hv
   ·exact h.elim
  ·exact h.elim
 ·exact h.elim
theorem yMl {P M w}(ok:Ok M)(hM:M.H=w.heap){t x i v u rx ri}(hx:zK M x rx)(hi:zK M i ri)
  (h:qJ (D4 P t x i) v u):zZ P (Instr.index t rx ri) M w v u:=by
 unfold D4 at h;split at h
 ·rename_i m e cs k n hu;have eg:ri=.int k n:=hi;subst eg;obtain⟨hc,h⟩:=vW h;simp only[Bool.and_eq_true] at hc;obtain⟨⟨c1,c2⟩,c3⟩:=hc;have c1:=Nat.eq_of_beq_eq_true c1;have c3:=Nat.eq_of_beq_eq_true c3;obtain⟨j,j1,j2,rfl,rfl,rfl⟩:=uh h;obtain⟨us,rfl,fT⟩:=hx;have cr:vI P e=some false:=by
   grind
  have hj:j<cs.length:=by omega
  have cD:eO cs j (P.cellsOf e)=some [cs[j]]:=by
   unfold eO;have:Nat.ble (j+P.cellsOf e) cs.length=true:=Nat.ble_eq_true_of_le (by omega);rw[this,c1];simp[List.take_one]
  obtain⟨rv,hr,hv⟩:=On (P:=P) (w:=w) fT cD (v:=.c cs[j]) (by rw[cr];rfl);obtain⟨y,hy⟩:=fR (P:=P) (t:=e) (by omega);have hjm:(j:Int)<m:=by omega
  refine zZ.pure ok hM (rv:=rv) ?_ ?_
  ·have h':¬m≤j:=by omega
   simp[Instr.index,asIntOf,run_underlying hu,h',wP w hy,c1,hr]
  simp_all
 ·exact h.elim
theorem yQi {P M w}(ok:Ok M)(hM:M.H=w.heap){t}{s:ByteArray}{i v u ri}(hi:zK M i ri)
  (h:qJ (D5 P t s i) v u):zZ P (Instr.index t (.string s) ri) M w v u:=by
 unfold D5 at h;split at h
 ·rename_i k n hu;have eg:ri=.int k n:=hi;subst eg;obtain⟨hb,rfl,rfl⟩:=dW h;unfold zC tS at hb;simp only[Bool.and_eq_true,decide_eq_true_eq,List.length_map] at hb;obtain⟨b1,b2⟩:=hb;have aS:n.toNat<s.data.toList.length:=by omega
  have bZ:n.toNat<s.size:=by simpa using aS
  have bS:s[n.toNat]? =some s.data.toList[n.toNat]:=by
   rw[getElem?_pos s n.toNat bZ];rfl
  have ku:(tS s).getD n.toNat 0=(s.data.toList[n.toNat].toNat:Int):=by
   unfold tS;rw[List.getD_eq_getElem?_getD,List.getElem?_map,List.getElem?_eq_getElem aS];rfl
  refine zZ.pure ok hM (rv:=.int .u8 (s.data.toList[n.toNat].toNat:Int)) ?_ (by rw[ku];rfl);simp only[Instr.index,asIntOf];simp[run_underlying hu,b1,bS]
 ·exact h.elim
theorem EK a b:jC a b=(a==b):=by cases a<;>cases b<;>rfl
theorem yRz {P M w}(ok:Ok M)(hM:M.H=w.heap){op k x y xt v u}(hs:op≠.shl∧op≠.shr)
  (h:qJ (NP op k x y) v u):zZ P (binOp op xt (.int k x) (.int k y)) M w v u:=by
 cases op with
 |shl=>simp_all
 |shr=>simp_all
 |quo=>
  obtain⟨h1,rfl,rfl⟩:=dW h;simp  at h1;exact zZ.pure ok hM (rv:=.int k (k.wrap (x.tdiv y))) (by simp[binOp,Op.intDiv,h1]) rfl
 |rem=>
  obtain⟨h1,rfl,rfl⟩:=dW h;simp[Bool.not_eq_true'] at h1;exact zZ.pure ok hM (rv:=.int k (x.tmod y)) (by simp[binOp,Op.intDiv,h1]) rfl
 |neq=>
  obtain⟨rfl,rfl⟩:=yM h;exact zZ.pure ok hM (rv:=.bool (!decide (x=y))) (by simp[binOp,Op.intCmp,bne,BEq.beq]) rfl
 |eql=>
  obtain⟨rfl,rfl⟩:=yM h;exact zZ.pure ok hM (rv:=.bool (decide (x=y))) (by simp[binOp,Op.intCmp,BEq.beq]) rfl
 |_=>
  obtain⟨rfl,rfl⟩:=yM h;exact zZ.pure ok hM (rv:=_) (by simp[binOp];rfl) rfl
theorem qOp {P M w}(ok:Ok M)(hM:M.H=w.heap){op k j x y xt v u}(hs:op=.shl∨op=.shr)
  (h:qJ (NQ op k x y) v u):zZ P (binOp op xt (.int k x) (.int j y)) M w v u:=by
 rcases hs with rfl|rfl
 ·obtain⟨h1,rfl,rfl⟩:=dW h;simp only[Bool.not_eq_true',decide_eq_false_iff_not] at h1;exact zZ.pure ok hM (rv:=.int k (k.wrap (x*2^(min y.toNat k.bits)))) (by simp only[binOp,Op.shift,h1,if_false];rfl) rfl
 ·obtain⟨h1,rfl,rfl⟩:=dW h;simp only[Bool.not_eq_true',decide_eq_false_iff_not] at h1;exact zZ.pure ok hM (rv:=.int k (x.fdiv (2^(min y.toNat k.bits)))) (by simp only[binOp,Op.shift,h1];rfl) rfl
def uk (P:Program)(eqT:TypeId→Bool):Prop:=∀t,eqT t=true→∀(M:zE) (xs ys:List zN) (us vs:Array Value) (r:Bool) (w:World),yr P t xs ys=some r→
 zG (zM M) xs us.toList→zG (zM M) ys vs.toList→P.eqGuardType P.depth t=false∧(Op.equal t (.agg us) (.agg vs)).run P w=.ok r w
def nE:zN→zN→Option Bool
 |.int j a,.int k b=>bif vY j k then some (decide (a=b)) else none
 |.bool a,.bool b=>some (jC a b)
 |_,_=>none
theorem yI8 {x y xs ys r}(h:vZ (x::xs) (y::ys)=some r):∃b r',nE x y=some b∧vZ xs ys=some r'∧r=(b&&r'):=by
 have um:(match nE x y,vZ xs ys with|some b,some r'=>some (b&&r')|_,_=>none)=some r→∃b r',nE x y=some b∧vZ xs ys=some r'∧r=(b&&r'):=by
  grind
 apply um;rw[←h]
 match x,y with
 |.int j a,.int k b=>
  cases hk:vY j k<;>cases xs<;>cases ys<;>simp only[vZ,nE,hk,cond_true]<;>first|grind|rfl
 |.bool a,.bool b=>
  cases xs<;>cases ys<;>simp only[vZ,nE]<;>first|grind|rfl
 |.int _ _,.str _|.int _ _,.undef|.int _ _,.bool _|.int _ _,.fsl _ _ _|.int _ _,.nfl _ _ _|.int _ _,.nsl|.int _ _,.osl _ _|.int _ _,.bsl _ _ _|.int _ _,.ptr _ _|.int _ _,.eptr _ _ _|.int _ _,.fptr _ _ _ _|.int _ _,.mrow _ _ _|.int _ _,.mptr _ _|.int _ _,.meptr _ _ _ _|.int _ _,.nilp|.int _ _,.nilf|.int _ _,.nilm|.int _ _,.fn _ _|.int _ _,.map _
 |.bool _,.str _|.bool _,.undef|.bool _,.int _ _|.bool _,.fsl _ _ _|.bool _,.nfl _ _ _|.bool _,.nsl|.bool _,.osl _ _|.bool _,.bsl _ _ _|.bool _,.ptr _ _|.bool _,.eptr _ _ _|.bool _,.fptr _ _ _ _|.bool _,.mrow _ _ _|.bool _,.mptr _ _|.bool _,.meptr _ _ _ _|.bool _,.nilp|.bool _,.nilf|.bool _,.nilm|.bool _,.fn _ _|.bool _,.map _=>cases xs<;>cases ys<;>cases h
def EL (b:Bool)(us:List Value):Value:=bif b then .agg us.toArray else us.getD 0 (.bool false)
theorem qq {P:Program}:∀{a r xs},wB (a++r) xs=true→wB a (xs.take a.length)=true∧wB r (xs.drop a.length)=true∧(xs.take a.length).length=a.length
 |[],r,xs,h=>⟨rfl,h,rfl⟩
 |k::a,r,xs,h=>by
  match k,xs,h with
  |some k,.int j n::xs,h=>
   have h':(vY j k&&wB (a++r) xs)=true:=h;rw[Bool.and_eq_true] at h';obtain⟨h1,h2,h3⟩:=qq (P:=P) h'.2;refine⟨?_,h2,by simp[h3]⟩;show(vY j k&&wB a (xs.take a.length))=true;simp_all
  |none,.bool b::xs,h=>
   have h':wB (a++r) xs=true:=h;obtain⟨h1,h2,h3⟩:=qq (P:=P) h';exact⟨h1,h2,by simp[h3]⟩
theorem EM:∀{a b c d r},a.length=b.length→vZ (a++c) (b++d)=some r→∃r1 r2,vZ a b=some r1∧vZ c d=some r2∧r=(r1&&r2)
 |[],[],c,d,r,_,h=>⟨true,r,rfl,h,rfl⟩
 |x::a,y::b,c,d,r,hl,h=>by
  obtain⟨e,r',h1,h2,rfl⟩:=yI8 h;obtain⟨r1,r2,h3,h4,rfl⟩:=EM (by simp_all) h2;refine⟨e&&r1,r2,?_,h4,by grind⟩;have mk:∀{x y:zN} {xs ys:List zN} {b r':Bool},nE x y=some b→vZ xs ys=some r'→xs.length=ys.length→vZ (x::xs) (y::ys)=some (b&&r'):=by
   intro x y xs ys b r' h1 h2 hl;cases x<;>cases y<;>first|(cases h1;done)|skip
   ·rename_i j m k n;simp[nE] at h1;cases hk:vY j k with
    |false=>simp_all
    |true=>
     rw[hk] at h1;cases h1;cases xs<;>cases ys
     ·cases h2;simp[vZ,hk]
     ·cases hl
     ·cases hl
     ·simp[vZ,hk,h2]
   ·cases h1;cases xs<;>cases ys
    ·cases h2;simp[vZ]
    ·cases hl
    ·cases hl
    ·simp[vZ,h2]
  grind
def EN (P:Program)(dd:Nat)(t:TypeId)(ks:List (Option IntKind)):Prop:=∃b,vI P t=some b∧(b=false→ks.length=1)∧∀(M:zE) (w:World) (us vs:List Value) (xs ys:List zN) (r:Bool),
 wB ks xs=true→wB ks ys=true→vZ xs ys=some r→zG (zM M) xs us→zG (zM M) ys vs→(Op.equalIn dd t (EL b us) (EL b vs)).run P w=.ok r w
theorem iL:∀{ks xs},wB ks xs=true→xs.length=ks.length
 |[],[],_=>rfl
 |some k::ks,.int j n::xs,h=>by
  have h':(vY j k&&wB ks xs)=true:=h;rw[Bool.and_eq_true] at h';simp[iL h'.2]
 |none::ks,.bool b::xs,h=>by
  have h':wB ks xs=true:=h;simp[iL h']
theorem z9 {P t b}(ht:vI P t=some b){us off w}(hn:off+P.cellsOf t≤us.size)(h1:b=false→P.cellsOf t=1)(h0:∃i,P.info? t=some i):
  (part t us off).run P w=.ok (EL b ((us.toList.drop off).take (P.cellsOf t))) w:=by
 obtain⟨⟨d,hd⟩,hr⟩:=ko (P:=P) w ht;cases b with
 |true=>
  obtain⟨i,hi⟩:=h0;simp[part,hr,wP w hi]
  congr 2
  grind
 |false=>
  have h1:=h1 rfl;have aS:off<us.size:=by omega
  have e:us[off]? =some us[off]:=by simp
  have e2:(us.toList.drop off).take 1=[us[off]]:=by
   rw[List.drop_eq_getElem_cons (by omega)];simp
  simp[part,hr,e,h1,e2];rfl
theorem Oo {P dd M w us vs rec}:∀fs i ks xs ys r,(∀f∈fs,∀a,rec f.type=some a→EN P dd f.type a)→
  yq P rec i fs=some ks→wB ks xs=true→wB ks ys=true→vZ xs ys=some r→zG (zM M) xs (us.toList.drop i)→zG (zM M) ys (vs.toList.drop i)→(Op.eqFields dd us vs fs).run P w=.ok r w
 |[],i,ks,xs,ys,r,_,hk,hx,hy,he,hu,hv=>by
  cases hk;cases xs with
  |cons _ _=>cases hx
  |nil=>cases ys with
   |cons _ _=>cases hy
   |nil=>cases he;rfl
 |f::fs,i,ks,xs,ys,r,aL,hk,hx,hy,he,hu,hv=>by
  unfold yq at hk;cases hc:(Nat.beq f.offset i&& !(f.name== "_")) with
  |false=>rw[hc] at hk;cases hk
  |true=>
   rw[hc] at hk;rw[Bool.and_eq_true] at hc;have ho:f.offset=i:=by simpa using hc.1
   have hn:f.name≠ "_" :=by simpa using hc.2
   dsimp only[cond_true] at hk;split at hk
   ·rename_i a r0 ha lK;cases hl:(Nat.beq a.length (P.cellsOf f.type)&&Nat.blt 0 a.length) with
    |false=>rw[hl] at hk;cases hk
    |true=>
     rw[hl] at hk;cases hk;rw[Bool.and_eq_true] at hl;have Aa:0<a.length:=by have:=hl.2;simp[Nat.blt] at this;omega
     have hl:=Nat.eq_of_beq_eq_true hl.1;obtain⟨b,hb,dq,hE⟩:=aL f (List.mem_cons_self ..) a ha;obtain⟨x1,x2,x3⟩:=qq (P:=P) hx;obtain⟨y1,y2,y3⟩:=qq (P:=P) hy;have ex:xs=xs.take a.length++xs.drop a.length:=(List.take_append_drop _ _).symm;have ey:ys=ys.take a.length++ys.drop a.length:=(List.take_append_drop _ _).symm;rw[ex,ey] at he;obtain⟨r1,r2,e1,e2,rfl⟩:=EM (by rw[x3,y3]) he;have qs:=hu.length;have EO:=hv.length;have nF:=iL hx;have nG:=iL hy;rw[List.length_append] at nF nG;have nH:=hu.take a.length;have fD:=hv.take a.length;have nI:=hu.drop a.length;have gK:=hv.drop a.length;rw[List.drop_drop] at nI gK;have h0:∃i,P.info? f.type=some i:=by
      obtain⟨⟨d,hd⟩,_⟩:=ko (P:=P) w hb;exact zm hd
     have step:=hE M w _ _ _ _ r1 x1 y1 e1 nH fD;rw[hl] at nI gK;have ih:=Oo (w:=w) fs (i+P.cellsOf f.type) r0 _ _ r2 (fun g hg=>aL g (List.mem_cons_of_mem _ hg)) lK x2 y2 e2 (by rw[hl];exact nI) (by rw[hl];exact gK);have bu:i+P.cellsOf f.type≤us.size:=by simp at qs;omega
     have bv:i+P.cellsOf f.type≤vs.size:=by simp at EO;omega
     have p1:=z9 (w:=w) hb bu (by grind) h0;have p2:=z9 (w:=w) hb bv (fun e=>by have:=dq e;omega) h0;rw[hl] at step;unfold Op.eqFields;rw[if_pos hn,ho];simp only[Sem.run_bind,p1,p2,Result.andThen_ok,step];cases r1 with
     |true=>grind
     |false=>simp
   ·cases hk
theorem Oq {P dd M w us vs e a}(hE:EN P dd e a)(hl:a.length=P.cellsOf e)(Aa:0<a.length):∀c j xs ys r,
  wB (ni c a) xs=true→wB (ni c a) ys=true→vZ xs ys=some r→zG (zM M) xs (us.toList.drop (j*P.cellsOf e))→zG (zM M) ys (vs.toList.drop (j*P.cellsOf e))→(Op.eqItems dd e (P.cellsOf e) us vs (List.range' j c)).run P w=.ok r w
 |0,j,xs,ys,r,hx,hy,he,hu,hv=>by
  cases xs with
  |cons _ _=>cases hx
  |nil=>cases ys with
   |cons _ _=>cases hy
   |nil=>cases he;rfl
 |c+1,j,xs,ys,r,hx,hy,he,hu,hv=>by
  obtain⟨b,hb,dq,zu⟩:=id hE;obtain⟨x1,x2,x3⟩:=qq (P:=P) hx;obtain⟨y1,y2,y3⟩:=qq (P:=P) hy;have ex:xs=xs.take a.length++xs.drop a.length:=(List.take_append_drop _ _).symm;have ey:ys=ys.take a.length++ys.drop a.length:=(List.take_append_drop _ _).symm;rw[ex,ey] at he;obtain⟨r1,r2,e1,e2,rfl⟩:=EM (by rw[x3,y3]) he;have qs:=hu.length;have EO:=hv.length;have nF:=iL hx;have nG:=iL hy;have hrl:(ni (c+1) a).length=a.length+(ni c a).length:=by show(a++ni c a).length=_;rw[List.length_append]
  rw[hrl] at nF nG;have nH:=hu.take a.length;have fD:=hv.take a.length;have nI:=hu.drop a.length;have gK:=hv.drop a.length;rw[List.drop_drop] at nI gK;have h0:∃i,P.info? e=some i:=by
   obtain⟨⟨d,hd⟩,_⟩:=ko (P:=P) w hb;exact zm hd
  have step:=zu M w _ _ _ _ r1 x1 y1 e1 nH fD;have ej:j*P.cellsOf e+a.length=(j+1)*P.cellsOf e:=by rw[Nat.add_mul];omega
  rw[ej] at nI gK;have ih:=Oq (w:=w) hE hl Aa c (j+1) _ _ r2 x2 y2 e2 nI gK;have bu:j*P.cellsOf e+P.cellsOf e≤us.size:=by simp at qs;omega
  have bv:j*P.cellsOf e+P.cellsOf e≤vs.size:=by simp at EO;omega
  have p1:=z9 (w:=w) hb bu (by grind) h0;have p2:=z9 (w:=w) hb bv (fun e=>by have:=dq e;omega) h0;rw[hl] at step;rw[show List.range' j (c+1)=j::List.range' (j+1) c from rfl];simp only[Op.eqItems,Sem.run_bind,p1,p2,Result.andThen_ok,step];cases r1 with
  |true=>grind
  |false=>simp
theorem EP {P} d:∀m t ks,P.keyTypeAt m t=true→pH P m t=some ks→EN P (d+m) t ks
 |0,_,_,h,_=>by simp[Program.keyTypeAt] at h
 |m+1,t,ks,hk,h=>by
  unfold Program.keyTypeAt at hk;unfold pH at h;split at h
  ·rename_i k hu;cases h;refine⟨false,by unfold vI;rw[hu],fun _=>rfl,fun M w us vs xs ys r hx hy he iM ef=>?_⟩;have nF:=iL hx;have nG:=iL hy
   match xs,ys,us,vs,hx,hy,iM,ef,nF,nG with
   |[.int j a],[.int j' c],[u],[v],hx,hy,⟨nH,_⟩,⟨fD,_⟩,_,_=>
    have e1:u=.int j a:=nH;have e2:v=.int j' c:=fD;subst e1;subst e2;simp only[vZ] at he;cases hk:vY j j' with
    |false=>rw[hk] at he;cases he
    |true=>
     rw[hk] at he;cases he;rw[←ka hk];exact run_equalIn_int (P:=P) w (d+m) t j k a c hu
  ·rename_i hu;cases h;refine⟨false,by unfold vI;rw[hu],fun _=>rfl,fun M w us vs xs ys r hx hy he iM ef=>?_⟩;have nF:=iL hx;have nG:=iL hy
   match xs,ys,us,vs,hx,hy,iM,ef,nF,nG with
   |[.bool a],[.bool c],[u],[v],hx,hy,⟨nH,_⟩,⟨fD,_⟩,_,_=>
    have e1:u=.bool a:=nH;have e2:v=.bool c:=fD;subst e1;subst e2;cases he;show(Op.equalIn (d+m+1) t (.bool a) (.bool c)).run P w=_;rw[run_equalIn_bool' (P:=P) w (d+m) t a c hu,EK]
  ·rename_i fs hu;simp only[hu,Bool.and_eq_true,Bool.not_eq_true'] at hk;refine⟨true,by unfold vI;rw[hu],by simp,fun M w us vs xs ys r hx hy he iM ef=>?_⟩;have hf:P.fieldsOf t=fs:=by unfold Program.fieldsOf;rw[hu]
   have:=run_equalIn_struct (P:=P) w (d+m) t us.toArray vs.toArray (by rw[hf];exact hu) hk.2;rw[hf] at this;refine this.trans (Oo (rec:=pH P m) _ 0 ks xs ys r (fun f hf a ha=>?_) h hx hy he (by simpa using iM) (by simpa using ef));have Ot:=Array.all_eq_true_iff_forall_mem.1 hk.1.1 f (by grind);simp only[Bool.and_eq_true,bne_iff_ne,ne_eq] at Ot;exact EP d m f.type a Ot.2 ha
  ·rename_i n e hu;simp only[hu] at hk;split at h
   ·rename_i a ha;cases hl:(Nat.beq a.length (P.cellsOf e)&&Nat.blt 0 a.length) with
    |false=>rw[hl] at h;cases h
    |true=>
     rw[hl] at h;cases h;rw[Bool.and_eq_true] at hl;have Aa:0<a.length:=by have:=hl.2;simp[Nat.blt] at this;omega
     have hl:=Nat.eq_of_beq_eq_true hl.1;refine⟨true,by unfold vI;rw[hu],(by simp),fun M w us vs xs ys r hx hy he iM ef=>?_⟩;obtain⟨i,hi⟩:=fR (P:=P) (t:=e) (by omega);have:=run_equalIn_array (P:=P) w (d+m) us.toArray vs.toArray hu hi;refine this.trans ?_;rw[List.range_eq_range'];exact Oq (EP d m e a hk ha) hl Aa n 0 xs ys r hx hy he (by simpa using iM) (by simpa using ef)
   ·cases h
  ·cases h
theorem yCr {P eqT}(h:∀t,eqT t=true→(P.keyTypeAt 8 t&& !P.eqGuardType P.depth t)=true):uk P eqT:=by
 intro t ht M xs ys us vs r w he hu hv;have h:=h t ht;simp  at h;refine⟨h.2,?_⟩;unfold yr at he;split at he
 ·rename_i ks hk;unfold NR at hk;split at hk
  ·cases hc:(wB ks xs&&wB ks ys) with
   |false=>simp_all
   |true=>
    rw[hc] at he;rw[Bool.and_eq_true] at hc;obtain⟨b,hb,_,hE⟩:=EP (P:=P) 9992 8 t ks h.1 hk;have:b=true:=by
     unfold vI at hb;simp_all
    subst this;exact hE M w us.toList vs.toList xs ys r hc.1 hc.2 he hu hv
  ·cases hk
 ·cases he
theorem Ou {P t}(h:yu P t=true):P.underlying t=some .bool:=by
 unfold yu at h;grind
theorem yHk {P eqT}(heq:uk P eqT){M w}(ok:Ok M)(hM:M.H=w.heap){op xt ox oy x y v u rx ry}
  (hx:zK M x rx) (hy:zK M y ry) (h:qJ (DZ P eqT op xt ox oy x y) v u):zZ P (do eqGuard op xt ox oy rx ry;binOp op xt rx ry) M w v u:=by
 have quiet:∀{k j:IntKind} {a b:Int},(eqGuard op xt ox oy (.int k a) (.int j b)).run P w=.ok () w:=by
  unfold eqGuard;simp
 have step:∀{a b:Value},(eqGuard op xt ox oy a b).run P w=.ok () w→zZ P (binOp op xt a b) M w v u→zZ P (do eqGuard op xt ox oy a b;binOp op xt a b) M w v u:=by
  rintro a b hg ⟨rv,w',M',h1,h2⟩
  exact⟨rv,w',M',by simp_all,h2⟩
 unfold DZ at h;split at h
 ·have e1:rx=_:=hx;have e2:ry=_:=hy;subst e1;subst e2;exact step quiet (qOp ok hM (.inl rfl) h)
 ·have e1:rx=_:=hx;have e2:ry=_:=hy;subst e1;subst e2;exact step quiet (qOp ok hM (.inr rfl) h)
 ·obtain⟨hk,h2⟩:=vW h;have hk:=ka hk;subst hk;have e1:rx=_:=hx;have e2:ry=_:=hy;subst e1;subst e2;exact step quiet (yRz ok hM (by grind) h2)
 ·rename_i a b;have e1:rx=_:=hx;have e2:ry=_:=hy;subst e1;subst e2;obtain⟨hb,h2⟩:=vW h;obtain⟨rfl,rfl⟩:=yM h2;have hr:=run_equalIn_bool' (P:=P) w 9999 xt a b (Ou hb);refine zZ.pure ok hM (rv:=.bool (jC a b)) ?_ rfl;have qt:(Op.equal xt (.bool a) (.bool b)).run P w=.ok (a==b) w:=hr;have hg:(eqGuard .eql xt ox oy (.bool a) (.bool b)).run P w=.ok () w:=by rfl
  simp only[Sem.run_bind,hg,Result.andThen_ok,binOp,qt,Sem.run_pure,EK]
 ·rename_i a b;have e1:rx=_:=hx;have e2:ry=_:=hy;subst e1;subst e2;obtain⟨hb,h2⟩:=vW h;obtain⟨rfl,rfl⟩:=yM h2;have hr:=run_equalIn_bool' (P:=P) w 9999 xt a b (Ou hb);refine zZ.pure ok hM (rv:=.bool (!jC a b)) ?_ rfl;have qt:(Op.equal xt (.bool a) (.bool b)).run P w=.ok (a==b) w:=hr;have hg:(eqGuard .neq xt ox oy (.bool a) (.bool b)).run P w=.ok () w:=by rfl
  simp only[Sem.run_bind,hg,Result.andThen_ok,binOp,qt,Sem.run_pure,EK]
 ·rename_i a b;have e1:rx=_:=hx;have e2:ry=_:=hy;subst e1;subst e2;obtain⟨rfl,rfl⟩:=yM h;have hg:(eqGuard .eql xt ox oy (.string ⟨(fP a).toArray⟩) (.string ⟨(fP b).toArray⟩)).run P w=.ok () w:=by rfl
  refine zZ.pure ok hM (rv:=.bool (yt a b)) ?_ rfl;simp only[hg,binOp_string_eql,ByteArray.toList_eq];rfl
 ·rename_i a b;have e1:rx=_:=hx;have e2:ry=_:=hy;subst e1;subst e2;obtain⟨rfl,rfl⟩:=yM h;have hg:(eqGuard .neq xt ox oy (.string ⟨(fP a).toArray⟩) (.string ⟨(fP b).toArray⟩)).run P w=.ok () w:=by rfl
  refine zZ.pure ok hM (rv:=.bool (!yt a b)) ?_ rfl;simp only[hg,Result.andThen_ok,binOp_string_neq,ByteArray.toList_eq,Sem.run_pure];rfl
 ·obtain⟨ht,h⟩:=vW h;split at h
  ·rename_i r hr;obtain⟨rfl,rfl⟩:=yM h;obtain⟨us,rfl,fT⟩:=hx;obtain⟨vs,rfl,ca⟩:=hy;obtain⟨g1,g2⟩:=heq xt ht M _ _ us vs r w hr fT ca;exact step (run_eqGuard_agg w _ xt ox oy us vs g1) (zZ.pure ok hM (rv:=.bool r) (by simp only[binOp,Sem.run_bind,g2,Result.andThen_ok];rfl) rfl)
  ·exact h.elim
 ·obtain⟨ht,h⟩:=vW h;split at h
  ·rename_i r hr;obtain⟨rfl,rfl⟩:=yM h;obtain⟨us,rfl,fT⟩:=hx;obtain⟨vs,rfl,ca⟩:=hy;obtain⟨g1,g2⟩:=heq xt ht M _ _ us vs r w hr fT ca;exact step (run_eqGuard_agg w _ xt ox oy us vs g1) (zZ.pure ok hM (rv:=.bool (!r)) (by simp only[binOp,Sem.run_bind,g2];rfl) rfl)
  ·exact h.elim
 ·exact h.elim
theorem yG7 {P M w}(ok:Ok M)(hM:M.H=w.heap){op x v u rx}(hx:zK M x rx)(h:qJ (D2 op x) v u):
  zZ P (Op.unary op rx) M w v u:=by
 unfold D2 at h;split at h
 ·obtain⟨rfl,rfl⟩:=yM h;have e1:rx=_:=hx;subst e1;exact zZ.pure ok hM rfl rfl
 ·obtain⟨rfl,rfl⟩:=yM h;have e1:rx=_:=hx;subst e1;exact zZ.pure ok hM rfl rfl
 ·exact h.elim
theorem nJ {P w k}{i:Int}{y:Nat}{c}(h0:0≤i)(h1:i≤y):(Instr.sliceBound (.int k i) y c).run P w=.ok i.toNat w:=by
 simp[Instr.sliceBound,asIntOf,h0,h1]
def qu (M:zE):Option zO→Option Value→Prop
 |none,none=>True
 |some a,some v=>zK M a v
 |_,_=>False
theorem uo {P M w b len cap l u lo hi dD dr}(ek:qu M lo dD)(dN:qu M hi dr)(hc:len≤cap)
  (h:lx len lo hi=some (true,l,u)):(Instr.sliceBounds b len cap dD dr none).run P w=.ok (l,u,cap) w∧l≤u∧u≤len∧(lo=none→l=0)∧(hi=none→u=len):=by
 unfold lx at h;split at h
 ·cases h;cases dD with
  |some _=>exact ek.elim
  |none=>cases dr with
   |some _=>exact dN.elim
   |none=>exact⟨by rfl,by simp,by simp,by simp,by simp⟩
 ·rename_i k i;simp  at h;obtain⟨⟨h0,h1⟩,rfl,rfl⟩:=h;cases dr with
  |some _=>exact dN.elim
  |none=>cases dD with
   |none=>exact ek.elim
   |some v=>
    have e:v=.int k i:=ek;subst e;refine⟨?_,by omega,by simp,by simp,by simp⟩;simp[Instr.sliceBounds];rw[nJ h0 h1];rfl
 ·rename_i k i;simp  at h;obtain⟨⟨h0,h1⟩,rfl,rfl⟩:=h;cases dD with
  |some _=>exact ek.elim
  |none=>cases dr with
   |none=>exact dN.elim
   |some v=>
    have e:v=.int k i:=dN;subst e;refine⟨?_,by simp,by omega,by simp,by simp⟩;simp only[Instr.sliceBounds,Sem.run_bind,Sem.run_pure,Result.andThen_ok];rw[nJ h0 (by omega)];rfl
 ·rename_i k i k' i';simp  at h;obtain⟨⟨⟨h0,h1⟩,h2⟩,rfl,rfl⟩:=h;cases dD with
  |none=>exact ek.elim
  |some v=>cases dr with
   |none=>exact dN.elim
   |some v'=>
    have e:v=.int k i:=ek;have e':v'=.int k' i':=dN;subst e;subst e';refine⟨?_,by omega,by omega,by simp,by simp⟩;simp[Instr.sliceBounds];rw[nJ (by omega) (by omega)];simp;rw[nJ h0 (by omega)];rfl
 ·cases h
def fV (A:Option Addr)(l c size:Nat):Option Addr:=if c=l then A else A.map (·.add (l*size))
theorem yY.cut {H C lo n l u A c}(h:yY H C lo n (.slice A n c))(h1:l≤u)(h2:u≤n):
  yY H C (lo+l) (u-l) (.slice (fV A l c C.sz) (u-l) (c-l)):=by
 obtain⟨A',c',e,h⟩:=h;obtain⟨rfl,_,rfl⟩:=e;refine⟨_,_,rfl,?_⟩;cases hB:C.blk with
 |none=>
  rw[hB] at h;obtain⟨rfl,rfl,rfl⟩:=h;refine⟨?_,by omega,by omega⟩;unfold fV;simp
 |some B=>
  rw[hB] at h;obtain⟨hc,a,rfl,ha,hs⟩:=h;refine⟨by omega,?_⟩;unfold fV;by_cases e:c=l
  ·simp_all
  ·rw[if_neg e];refine⟨a+l*C.sz,by simp[Addr.add_lit],.inr ?_,by grind⟩;grind
theorem yY.cut' {H C lo n l u A c}(h:yY H C lo n (.slice A n c))(h1:l≤u)(h2:u≤c):
  yY H C (lo+l) (u-l) (.slice (fV A l c C.sz) (u-l) (c-l)):=by
 obtain⟨A',c',e,h⟩:=h;obtain⟨rfl,_,rfl⟩:=e;refine⟨_,_,rfl,?_⟩;cases hB:C.blk with
 |none=>
  rw[hB] at h;obtain⟨rfl,rfl,rfl⟩:=h;refine⟨?_,by omega,by omega⟩;unfold fV;simp
 |some B=>
  rw[hB] at h;obtain⟨hc,a,rfl,ha,hs⟩:=h;refine⟨by omega,?_⟩;unfold fV;by_cases e:c=l
  ·simp_all
  ·rw[if_neg e];refine⟨a+l*C.sz,by simp[Addr.add_lit],.inr ?_,by grind⟩;grind
theorem yTb {H F t}{xs:List t.den}{A n c l u}(h:zT H F (.sl t) xs (fun _=>some (.slice A n c)))(h1:l≤u)(h2:u≤n):
  zT H F (.sl t) (yC xs l (u-l)) (fun _=>some (.slice (fV A l c t.size) (u-l) (c-l))):=by
 simp[zT] at h⊢;obtain⟨A',n',c',⟨rfl,rfl,rfl⟩,hn,hc,h⟩:=h;have hl:=ql (xs:=xs) (lo:=l) (n:=u-l) (by omega);refine⟨_,_,_,⟨rfl,rfl,rfl⟩,hl.symm,by omega,?_⟩;by_cases e0:u-l=0
 ·refine .inl ⟨by grind,fun hA=>?_⟩;rcases h with⟨rfl,h0⟩|⟨B,o,rfl,_⟩
  ·cases A with
   |none=>simp_all
   |some a=>
    unfold fV at hA;grind
  ·unfold fV at hA;grind
 ·rcases h with⟨rfl,_⟩|⟨B,o,rfl,hB,hE⟩
  ·simp_all
  ·refine .inr ⟨B,o+l*t.size,?_,hB,fun i hi=>?_⟩
   ·unfold fV;rw[if_neg (by omega)];simp[Addr.add_lit]
   ·obtain⟨bU,e1⟩:=zt hi;grind
theorem Ov {P w t e A n c l u dD dr}(hu:P.underlying t=some (.slice e))(he:0<P.cellsOf e)
  (hb:(Instr.sliceBounds true n c dD dr none).run P w=.ok (l,u,c) w):
  (Instr.sliceAt t (.slice A n c) dD dr none).run P w=.ok (.slice (fV A l c (P.cellsOf e)) (u-l) (c-l)) w:=by
 obtain⟨y,hy⟩:=fR he;simp[Instr.sliceAt,run_underlying hu,Instr.slice,hb,wP w hy,fV]
theorem Ow {M}:∀{vs us ns},np vs=some ns→zG (zM M) vs us→us=ns.map (.int .i64 ·)∧vs=ns.map (.int .i64 ·)
 |[],[],ns,h,_=>by cases h;simp
 |v::vs,u::us,ns,h,hh=>by
  unfold np at h;split at h
  ·simp_all
  ·rename_i n l heq;cases heq;split at h
   ·rename_i r hr;cases h;obtain⟨e1,e2⟩:=Ow hr hh.2;have:u=.int .i64 n:=hh.1;simp_all
   ·cases h
  ·cases h
theorem Ox {M}(ok:Ok M){id own cells}(ab:M.h id=some (.box own cells)):
  ∃M',M'.H=M.H∧M'.h=qH M.h id (.box false cells)∧Ok M'∧qU M M'∧M'.h id=some (.box false cells):=by
 cases own with
 |false=>exact⟨M,rfl,(qi ab).symm,ok,qU.refl M,ab⟩
 |true=>
  obtain⟨C,hC,hO⟩:=ok.obj id _ ab;have kq:qR (M.freeze id (.box false cells) C) (.box false cells) C:=by
   have x:qK M (M.freeze id (.box false cells) C):=⟨fun _ C h=>⟨C,h,C.le_refl⟩,fun _ h=>.inl h,fun _ h=>.inl h,fun _ _=>rfl,fun _ _=>rfl,fun _ _=>rfl⟩;obtain⟨B,vals,e,h1,h2,h3,h4,h5⟩:=hO.ext x fun _ _ _=>rfl
   exact⟨B,vals,e,h1,h2,h3,h4,fun _=>.inr (vS h1)⟩
  have:=zE.freeze_ok ok ab rfl hC rfl kq;exact⟨M.freeze id _ C,rfl,rfl,this.1,this.2,qM _ _ _⟩
theorem yPq {P}{M}{w}(ok:Ok M)(hM:M.H=w.heap){t}{x v}{lo hi mx u rx dD dr qw}
  (hx:zK M x rx) (ek:qu M lo dD) (dN:qu M hi dr) (uq:qu M mx qw) (h:qJ (pU P M.h t x lo hi mx) v u):zZ P (Instr.sliceAt t rx dD dr qw) M w v u:=by
 unfold pU at h;split at h
 ·rename_i e sh ty xs hu;cases qw with
  |some _=>exact uq.elim
  |none=>
  obtain⟨hz,h⟩:=vW h;have hz:=Nat.eq_of_beq_eq_true hz;split at h
  ·rename_i dC l u' hc;obtain⟨rfl,rfl,rfl⟩:=dW h;have nD:zT M.H (bif sh then M.G else M.F) (.sl ty) xs (fun _=>some rx):=hx;have qx:=nD;simp only[zT,Option.some.injEq] at qx;obtain⟨A,m,c,rfl,rfl,dY,_⟩:=qx;obtain⟨b1,b2,b3,b4,b5⟩:=uo (P:=P) (w:=w) (b:=true) ek dN dY hc;refine zZ.pure ok hM (Ov hu (by rw[hz];exact ty.size_pos) b1) ?_;have key:=yTb nD b2 b3;rw[←hz] at key;show zT _ _ _ _ _;split
   ·rw[b4 rfl,b5 rfl] at key⊢
    simpa[yC] using key
   ·rw[b5 rfl] at key⊢;have:yC xs l (xs.length-l)=xs.drop l:=by simp only[yC];rw[List.take_of_length_le (by simp)]
    rw[this] at key;exact key
   ·rw[b4 rfl] at key⊢
    simpa[yC] using key
   ·exact key
  ·exact h.elim
 ·rename_i e id r hu;cases qw with
  |some _=>exact uq.elim
  |none=>
  split at h
  ·rename_i own ty xs ab;obtain⟨hz,h⟩:=vW h;have hz:=Nat.eq_of_beq_eq_true hz;split at h
   ·rename_i dC l u' hc;obtain⟨rfl,rfl,rfl⟩:=dW h;obtain⟨C,hC,hS⟩:=hx;obtain⟨C',aj,hO⟩:=ok.obj _ _ ab;rw[hC] at aj;cases aj;have hlen:=hO.1;have bZ:=hO.2.1;have key:∀kx m,kx+m≤C.len→yY M.H C kx m rx→Ek C kx rx→lx (match hi with|none=>m|some _=>C.len-kx) lo hi=some (true,l,u')→
      zZ P (Instr.sliceAt t rx dD dr none) M w (.c (.osl id (some (kx+l,u'-l)))) []:=by
     intro kx m hm uj cZ dY;have hS0:=uj;clear hS;obtain⟨A,c,rfl,_⟩:=hS0;obtain⟨_,_,_,cZ,ER⟩:=cZ;cases cZ;have ES:m≤c:=by
      obtain⟨A',c',e,ET⟩:=uj;simp only[Value.slice.injEq] at e;obtain⟨rfl,_,rfl⟩:=e;cases hB:C.blk with
      |none=>rw[hB] at ET;omega
      |some B=>rw[hB] at ET;exact ET.1
     have hb:∃k,(Instr.sliceBounds true m c dD dr none).run P w=.ok (l,u',c) w∧l≤u'∧u'≤k∧k≤c∧kx+k≤C.len:=by
      cases hi with
      |none=>
       obtain⟨b1,b2,b3,b4,b5⟩:=uo (P:=P) (w:=w) (b:=true) ek dN ES dY;exact⟨m,b1,b2,b3,ES,hm⟩
      |some y=>
       have hk:C.len-kx≤c:=by omega
       obtain⟨b1,b2,b3,b4,b5⟩:=uo (P:=P) (w:=w) (b:=true) ek dN hk dY;refine⟨C.len-kx,?_,b2,b3,hk,by omega⟩;cases dr with
       |none=>exact dN.elim
       |some ry=>exact b1
     obtain⟨k,b1,b2,b3,b6,b7⟩:=hb;refine zZ.pure ok hM (Ov hu (by rw[hz];exact ty.size_pos) b1) ⟨C,hC,by omega,?_,_,_,_,rfl,by omega⟩;have:=yY.cut' uj b2 (by grind);rw[hz,←bZ];exact this
    cases r with
    | none => exact key 0 C.len (by omega) hS (by
      obtain⟨A,c,rfl,h⟩:=hS;refine⟨A,_,c,rfl,?_⟩;cases hB:C.blk with
      |none=>rw[hB] at h;omega
      | some B => rw [hB] at h; have := h.1; omega) (by
      unfold D8 at hc;rw[←hlen] at hc;cases hi<;>exact hc)
    | some p => exact key p.1 p.2 hS.1 hS.2.1 hS.2.2 (by
      unfold D8 at hc;rw[←hlen] at hc;cases hi<;>exact hc)
   ·exact h.elim
  ·exact h.elim
 ·rename_i e km m id hu;split at h
  ·rename_i own ty xs ab;obtain⟨hz,h⟩:=vW h;have hz:=Nat.eq_of_beq_eq_true hz;split at h
   ·skip
    rename_i a b dC l u' _ hc;obtain⟨cP,rfl,rfl⟩:=dW h;simp only[Bool.and_eq_true,decide_eq_true_eq] at cP;obtain⟨⟨cP,h1⟩,h2⟩:=cP;subst cP;obtain⟨C,hC,hS⟩:=hx;obtain⟨C',aj,hO⟩:=ok.obj _ _ ab;rw[hC] at aj;cases aj;have hlen:=hO.1;obtain⟨A,c,rfl,hS⟩:=hS;have ES:C.len≤c:=by
     cases hB:C.blk with
     |none=>rw[hB] at hS;omega
     |some B=>rw[hB] at hS;exact hS.1
    cases qw with
    |none=>exact uq.elim
    |some rm=>
     have hrm:rm=.int km m:=uq;subst hrm;obtain⟨b1,b2,b3,b4,b5⟩:=uo (P:=P) (w:=w) (b:=true) ek dN (Nat.le_refl xs.length) hc;obtain⟨i,hi⟩:=fR (P:=P) (t:=e) (by rw[hz];exact ty.size_pos);cases dD with
     |none=>exact ek.elim
     |some rl=>cases dr with
      |none=>exact dN.elim
      |some rh=>
       have hbb:∃k1 i1 k2 i2,rl=.int k1 i1∧rh=.int k2 i2∧0≤i1∧i1≤i2∧i2≤(xs.length:Int)∧l=i1.toNat∧u'=i2.toNat:=by
        unfold lx at hc;split at hc
        ·rename_i e1 _;cases e1
        ·rename_i e1;cases e1
        ·rename_i e1 _;cases e1
        ·rename_i k i k' i' e1 e2;cases e1;cases e2;simp only[Option.some.injEq,Prod.mk.injEq,Bool.and_eq_true,decide_eq_true_eq] at hc;obtain⟨⟨⟨q0,q1⟩,q2⟩,rfl,rfl⟩:=hc;exact⟨k,i,k',i',ek,dN,q0,q1,q2,rfl,rfl⟩
        ·cases hc
       obtain⟨k1,i1,k2,i2,rfl,rfl,q0,q1,q2,rfl,rfl⟩:=hbb;have hr:∃v,(Instr.sliceAt t (.slice A C.len c) (some (.int k1 i1)) (some (.int k2 i2)) (some (.int km m))).run P w=.ok v w∧v.one1=true:=by
        refine⟨.slice (if m.toNat=i1.toNat then A else A.map (·.add (i1.toNat*P.cellsOf e))) (i2.toNat-i1.toNat) (m.toNat-i1.toNat),?_,rfl⟩;have e1:=nJ (P:=P) (w:=w) (k:=km) (i:=m) (y:=c) (c:=.slice3Acap) (by omega) (by omega);have e2:=nJ (P:=P) (w:=w) (k:=k2) (i:=i2) (y:=m.toNat) (c:=.slice3B) (by omega) (by omega);have e3:=nJ (P:=P) (w:=w) (k:=k1) (i:=i1) (y:=i2.toNat) (c:=.slice3C) (by omega) (by omega);simp[Instr.sliceAt,run_underlying hu,Instr.slice,Instr.sliceBounds,e1,e2,e3,wP w hi]
       obtain⟨v,hr,hv⟩:=hr;exact zZ.pure ok hM hr hv
   ·exact h.elim
  ·exact h.elim
 ·rename_i n e id off hu;cases qw with
  |some _=>exact uq.elim
  |none=>
  obtain⟨hz,h⟩:=vW h;have hz:=Nat.eq_of_beq_eq_true hz;obtain⟨y,hy⟩:=fR (P:=P) (t:=e) (by omega);split at h
  ·rename_i own cells ab;obtain⟨C,B,hC,hB,rfl⟩:=hx;split at h
   ·obtain⟨_,h⟩:=vW h;obtain⟨rfl,rfl⟩:=yM h;have EU:dD=none:=by cases dD with
     |none=>rfl
     |some _=>exact ek.elim
    have EV:dr=none:=by cases dr with
     |none=>rfl
     |some _=>exact dN.elim
    subst EU;subst EV;refine zZ.pure ok hM (rv:=.slice (some ⟨B,off,none⟩) n n) ?_ ⟨C,B,hC,hB,rfl⟩;simp[Instr.sliceAt,run_underlying hu,jE,Instr.sliceBounds,wP w hy,Addr.add_lit]
   ·split at h
    ·rename_i vs cD;split at h
     ·rename_i ns dC l u' EW hc;obtain⟨rfl,rfl,rfl⟩:=wE h;obtain⟨b1,b2,b3,b4,b5⟩:=uo (P:=P) (w:=w) (b:=false) ek dN (Nat.le_refl n) hc;obtain⟨M',a1,a2,a3,a4,a5⟩:=Ox ok ab;obtain⟨C1,c0,le⟩:=a4.ext.κ id C hC;obtain⟨C2,Oy,hO⟩:=a3.obj id _ a5;rw[c0] at Oy;cases Oy;obtain⟨B',vals,ev,k1,k2,k3,k4,k5⟩:=hO;rw[le.blk,hB] at k1;cases k1;obtain⟨q1,q2,q3⟩:=ub cD;have aL:=Om k4 cD;obtain⟨e1,e2⟩:=Ow EW aL;have hlen:ns.length=n:=by rw[e2] at q3;simpa[hz] using q3
      refine⟨.slice (some (if n=l then⟨B,off,none⟩ else⟨B,off+l*P.cellsOf e,none⟩)) (u'-l) (n-l),w,M',?_,rfl,rfl,rfl,a1.trans hM,by cases own with
       |true=>exact a2
       |false=>rw[a2];exact qi ab,a3,a4,?_⟩
      ·simp[Instr.sliceAt,run_underlying hu,jE,b1,wP w hy,Addr.add_lit]
      ·show zT M'.H (bif true then M'.G else M'.F) (.sl (.int .i64)) (yC ns l (u'-l)) (fun _=>some _);simp only[zT,Option.some.injEq,Value.slice.injEq];have hl:=ql (xs:=ns) (lo:=l) (n:=u'-l) (by omega);refine⟨_,_,_,⟨rfl,rfl,rfl⟩,hl.symm,by omega,?_⟩;by_cases e0:u'-l=0
       ·exact by grind
       ·refine .inr ⟨B,off+l*P.cellsOf e,by rw[if_neg (by omega)],k5 rfl,fun i hi=>?_⟩;obtain⟨bU,e3⟩:=zt hi;rw[e3,hz];simp only[zT,Ty.size,Nat.mul_one,Nat.add_zero,qO,k3];have e4:(vals.extract off (off+n)).toList[l+i]? =(ns.map (Value.int .i64 ·))[l+i]? :=by rw[e1]
        simp only[Array.getElem?_toList,List.getElem?_map,List.getElem?_eq_getElem bU,Option.map_some] at e4;rw[Array.getElem?_extract] at e4;split at e4
        ·rw[Nat.add_assoc];exact e4
        ·cases e4
     ·exact h.elim
    ·exact h.elim
  ·exact h.elim
 ·exact h.elim
end Go.Ab
