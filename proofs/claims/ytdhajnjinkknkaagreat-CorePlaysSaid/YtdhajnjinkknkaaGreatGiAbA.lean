/- part 0 -/
import Derived.Calls
import Derived.Orders
import Derived.KernelRfl
import Derived.Laws.Append
import Derived.Laws.AppendOwn
import Derived.Laws.MakeOwn
import Derived.Laws.IdiomCopy
import Derived.Laws.StructEq
import Derived.Laws.CopyRow
import Derived.ChangeKeysEq
set_option linter.unusedVariables false
namespace Go.Ab
inductive Ty where
 |int (k:IntKind)|bool|sl (t:Ty)|pair (a b:Ty)
abbrev Ty.den:Ty→Type
 |.int _=>Int|.bool=>Bool|.sl t=>List t.den|.pair a b=>a.den×b.den
def Ty.size:Ty→Nat
 |.int _=>1|.bool=>1|.sl _=>1|.pair a b=>a.size+b.size
def Ty.flat:Ty→Bool
 |.int _|.bool=>true|.sl _=>false|.pair a b=>a.flat&&b.flat
def Ty.dflt:(t:Ty)→t.den
 |.int _=>(0:Int)|.bool=>false|.sl t=>([]:List t.den)|.pair a b=>(a.dflt,b.dflt)
def fk:IntKind→IntKind→Bool
 |.i8,.i8|.i16,.i16|.i32,.i32|.i64,.i64|.u8,.u8|.u16,.u16|.u32,.u32|.u64,.u64=>true
 |_,_=>false
theorem oR {a b:IntKind}(h:fk a b=true):a=b:=by cases a<;>cases b<;>first|rfl|cases h
def nL:Ty→Ty→Bool
 |.int j,.int k=>fk j k
 |.bool,.bool=>true
 |.sl a,.sl b=>nL a b
 |.pair a b,.pair c d=>nL a c&&nL b d
 |_,_=>false
theorem xu:∀{a b:Ty},nL a b=true→a=b
 |.int j,.int k,h=>congrArg Ty.int (oR h)
 |.bool,.bool,_=>rfl
 |.sl a,.sl b,h=>congrArg Ty.sl (xu (a:=a) (b:=b) h)
 |.pair a b,.pair c d,h=>by
  simp only[nL,Bool.and_eq_true] at h
  rw[xu h.1,xu h.2]
 |.int _,.bool,h|.int _,.sl _,h|.int _,.pair _ _,h|.bool,.int _,h|.bool,.sl _,h|.bool,.pair _ _,h
 |.sl _,.int _,h|.sl _,.bool,h|.sl _,.pair _ _,h|.pair _ _,.int _,h|.pair _ _,.bool,h|.pair _ _,.sl _,h=>by cases h
def fU (a b:Ty)(xs:List a.den):Option (List b.den):=
 if h:nL a b=true then some (xu h▸xs) else none
inductive zL where
 |undef
 |int (k:IntKind) (n:Int)
 |bool (b:Bool)
 |fsl (sh:Bool) (t:Ty) (xs:List t.den)
 |nfl (sh:Bool) (t:Ty) (xs:List t.den)
 |nsl
 |osl (id:Nat) (r:Option (Nat×Nat))
 |bsl (id off len:Nat)
 |ptr (id off:Nat)
 |eptr (id i off:Nat)
 |fptr (sh:Bool) (t:Ty) (x:t.den) (off:Nat)
 |mrow (id i ver:Nat)
 |mptr (id i:Nat)
 |meptr (id i j ver:Nat)
 |nilp|nilf|nilm
 |fn (f:Nat) (cap:List Nat)
 |map (id:Nat)
inductive zI where
 |undef
 |skp
 |c (v:zL)
 |agg (vs:List zL)
 |tup (xs:List (Bool×List zL))
inductive Obj where
 |box (own:Bool) (cells:List zL)
 |robox (cells:List zL)
 |arr (own:Bool) (t:Ty) (xs:List t.den)
 |mat (ver:Nat) (xs:List (List Int))
 |pmat (ver:Nat) (xs:List (List Int)) (n:Nat)
 |imap (cZ:List (Int×Bool))
 |gone
abbrev Hp:=Nat→Option Obj
abbrev qH:=List (Nat×Obj)
def yM (h:Hp)(id:Nat)(o:Obj):Hp:=fun n=>bif Nat.beq n id then some o else h n
def qP (h:Hp):qH→Hp
 |[]=>h
 |(id,o)::u=>qP (yM h id o) u
structure St where
 t:Nat→zI
 h:Hp
def jG (t:Nat→zI)(d:Nat)(v:zI):Nat→zI:=fun n=>bif Nat.beq n d then v else t n
def gZ (t:Nat→zI)(d:Option Nat)(v:zI):Nat→zI:=match d with
 |some d=>jG t d v
 |none=>t
inductive yJ where
 |alts (l:List (Bool×zI×qH))
 |call (X:Type) (x:Option X) (f:X→zI×qH)
def yJ.stuck:yJ:=.alts []
def yJ.one (v:zI):yJ:=.alts [(true,v,[])]
def yJ.when (c:Bool)(v:zI):yJ:=.alts [(c,v,[])]
def Nn {R:Type}(K:zI→qH→Option R):List (Bool×zI×qH)→Option R
 |[]=>none
 |(c,v,u)::l=>bif c then K v u else Nn K l
def yJ.elim {R:Type}(s:yJ)(K:zI→qH→Option R):Option R:=match s with
 |.alts l=>Nn K l
 |.call _ x f=>x.bind fun r=>K (f r).1 (f r).2
def tI:Value→zL
 |.int k n=>.int k n
 |.bool b=>.bool b
 |.slice none 0 0=>.nsl
 |.pointer none=>.nilp
 |.nilFunc=>.nilf
 |.map none=>.nilm
 |_=>.undef
def tJ:Value→Bool
 |.agg _|.tuple _=>false
 |_=>true
def No:Value→zI
 |.agg cs=>bif cs.toList.all tJ then .agg (cs.toList.map tI) else .undef
 |.tuple _=>.undef
 |v=>.c (tI v)
def St.ev (st:St):Operand→zI
 |.tmp t=>st.t t
 |.const v=>No v
 |.global _=>.undef
 |.func f=>.c (.fn f [])
def cellsOf (sh:Bool):(t:Ty)→t.den→List zL
 |.int k,n=>[.int k n]
 |.bool,b=>[.bool b]
 |.sl t,xs=>[.fsl sh t xs]
 |.pair a b,p=>cellsOf sh a p.1++cellsOf sh b p.2
def Np (k:IntKind):Nat→zL→Option Int
 |0,.int j n=>bif fk j k then some n else none
 |_,_=>none
def Nq:Nat→zL→Option Bool
 |0,.bool b=>some b
 |_,_=>none
def Nr (t:Ty):Nat→zL→Option (List t.den)
 |0,.fsl true s xs=>fU s t xs
 |0,.nsl=>some []
 |_,_=>none
def oS:(t:Ty)→t.den→Nat→zL→Option t.den
 |.int k,_,off,v=>Np k off v
 |.bool,_,off,v=>Nq off v
 |.sl t,_,off,v=>Nr t off v
 |.pair a b,p,off,v=>bif Nat.blt off a.size then(match oS a p.1 off v with|some x=>some (x,p.2)|none=>none)
   else(match oS b p.2 (off-a.size) v with|some y=>some (p.1,y)|none=>none)
def oT (t:Ty):t.den→Nat→List zL→Option t.den
 |x,_,[]=>some x
 |x,off,v::vs=>match oS t x off v with
  |some y=>oT t y (off+1) vs
  |none=>none
def C7 (t:Ty)(vs:List zL):Option t.den:=bif Nat.beq vs.length t.size then oT t t.dflt 0 vs else none
def yB {α:Type}(xs:List α)(lo n:Nat):List α:=(xs.drop lo).take n
def gq {α:Type}(xs:List α):Option (Nat×Nat)→List α
 |none=>xs
 |some (lo,n)=>yB xs lo n
def eP:List (Option Ty)→Option Ty
 |[]=>none
 |[t]=>t
 |a::l=>match a,eP l with
  |some x,some y=>some (.pair x y)
  |_,_=>none
def Hb (P:Program):Nat→TypeId→Option Ty
 |0,_=>none
 |d+1,t=>match P.underlying t with
  |some (.int k)=>some (.int k)
  |some .bool=>some .bool
  |some (.slice e)=>(Hb P d e).map .sl
  |some (.struct fs)=>eP (fs.toList.map fun f=>Hb P d f.type)
  |some (.array n e)=>eP (List.replicate n (Hb P d e))
  |_=>none
def fB:Ty→List Value
 |.int k=>[.int k 0]
 |.bool=>[.bool false]
 |.sl _=>[.slice none 0 0]
 |.pair a b=>fB a++fB b
def Ns:Value→Value→Bool
 |.int j a,.int k b=>fk j k&&decide (a=b)
 |.bool a,.bool b=>bif a then b else !b
 |.slice none 0 0,.slice none 0 0=>true
 |_,_=>false
def C8:List Value→List Value→Bool
 |[],[]=>true
 |a::l,b::m=>Ns a b&&C8 l m
 |_,_=>false
def g9 (P:Program)(e:TypeId):Option Ty:=match Hb P 8 e,P.info? e with
 |some t,some i=>match i.zero with
  |some z=>bif Nat.beq i.size t.size&&C8 z.cells.toList (fB t) then some t else none
  |none=>none
 |_,_=>none
def jH (P:Program)(t:TypeId):Option Bool:=match P.underlying t with
 |some (.struct _)|some (.array _ _)=>some true
 |some _=>some false
 |none=>none
def zeroCells (P:Program)(t:TypeId):Option (List zL):=match P.info? t with
 |some i=>match i.zero with
  |some v=>bif Nat.beq v.cells.size i.size&&v.cells.toList.all tJ then some (v.cells.toList.map tI) else none
  |none=>none
 |none=>none
def nM (agg:Option Bool)(vs:List zL):Option zI:=match agg with
 |some true=>some (.agg vs)
 |some false=>match vs with
  |[v]=>some (.c v)
  |_=>none
 |none=>none
def yJ.ofO:Option zI→yJ
 |some v=>.one v
 |none=>.stuck
def kx (cells:List zL)(off n:Nat):Option (List zL):=
 bif Nat.ble (off+n) cells.length then some ((cells.drop off).take n) else none
def tK (cells:List zL)(off:Nat):List zL→Option (List zL)
 |[]=>some cells
 |v::vs=>bif Nat.blt off cells.length then tK (cells.set off v) (off+1) vs else none
def mC:zI→Option (List zL)
 |.c v=>some [v]
 |.agg vs=>some vs
 |_=>none
def oU (f:(n:Nat)→BitVec n→BitVec n→BitVec n)(k:IntKind)(x y:Int):Int:=
 k.wrap (f k.bits (BitVec.ofInt k.bits x) (BitVec.ofInt k.bits y)).toNat
def Yc (op:BinOp)(k:IntKind)(x y:Int):yJ:=match op with
 |.add=>.one (.c (.int k (k.wrap (x+y))))
 |.sub=>.one (.c (.int k (k.wrap (x-y))))
 |.mul=>.one (.c (.int k (k.wrap (x*y))))
 |.quo=>.when (!decide (y=0)) (.c (.int k (k.wrap (x.tdiv y))))
 |.rem=>.when (!decide (y=0)) (.c (.int k (x.tmod y)))
 |.and=>.one (.c (.int k (oU (fun _ a b=>a&&&b) k x y)))
 |.or=>.one (.c (.int k (oU (fun _ a b=>a|||b) k x y)))
 |.xor=>.one (.c (.int k (oU (fun _ a b=>a^^^b) k x y)))
 |.andNot=>.one (.c (.int k (oU (fun _ a b=>a&&&~~~b) k x y)))
 |.eql=>.one (.c (.bool (decide (x=y))))
 |.neq=>.one (.c (.bool (!decide (x=y))))
 |.lss=>.one (.c (.bool (decide (x<y))))
 |.leq=>.one (.c (.bool (decide (x≤y))))
 |.gtr=>.one (.c (.bool (decide (x>y))))
 |.geq=>.one (.c (.bool (decide (x≥y))))
 |_=>.stuck
def Yd (op:BinOp)(k:IntKind)(x y:Int):yJ:=match op with
 |.shl=>.when (!decide (y<0)) (.c (.int k (k.wrap (x*2^(min y.toNat k.bits)))))
 |.shr=>.when (!decide (y<0)) (.c (.int k (x.fdiv (2^(min y.toNat k.bits)))))
 |_=>.stuck
def la (a b:Bool):Bool:=bif a then b else !b
def jX:List zL→List zL→Option Bool
 |[],[]=>some true
 |[.int j a],[.int k b]=>bif fk j k then some (decide (a=b)) else none
 |.int j a::l,.int k b::m=>bif fk j k then(match jX l m with|some r=>some (decide (a=b)&&r)|none=>none) else none
 |[.bool a],[.bool b]=>some (la a b)
 |.bool a::l,.bool b::m=>match jX l m with|some r=>some (la a b&&r)|none=>none
 |_,_=>none
def Hc (P:Program)(rec:TypeId→Option (List (Option IntKind))):Nat→List Field→Option (List (Option IntKind))
 |_,[]=>some []
 | i, f :: l => bif Nat.beq f.offset i && !(f.name == "_") then (match rec f.type,Hc P rec (i+P.cellsOf f.type) l with
  |some a,some r=>bif Nat.beq a.length (P.cellsOf f.type)&&Nat.blt 0 a.length then some (a++r) else none
  |_,_=>none) else none
def tL {α:Type}:Nat→List α→List α
 |0,_=>[]
 |n+1,l=>l++tL n l
def xv (P:Program):Nat→TypeId→Option (List (Option IntKind))
 |0,_=>none
 |d+1,t=>match P.underlying t with
  |some (.int k)=>some [some k]
  |some .bool=>some [none]
  |some (.struct fs)=>Hc P (xv P d) 0 fs.toList
  |some (.array n e)=>match xv P d e with
   |some a=>bif Nat.beq a.length (P.cellsOf e)&&Nat.blt 0 a.length then some (tL n a) else none
   |none=>none
  |_=>none
def Ye (P:Program)(t:TypeId):Option (List (Option IntKind)):=match P.underlying t with
 |some (.struct _)=>xv P 8 t
 |_=>none
def fD:List (Option IntKind)→List zL→Bool
 |[],[]=>true
 |some k::l,.int j _::cs=>fk j k&&fD l cs
 |none::l,.bool _::cs=>fD l cs
 |_,_=>false
def Hd (P:Program)(t:TypeId)(a b:List zL):Option Bool:=match Ye P t with
 |some ks=>bif fD ks a&&fD ks b then jX a b else none
 |none=>none
def Nt (d:TypeDesc)(y:Operand)(x:zL):Option Bool:=match d,y,x with
 |.slice _,.const (.slice none 0 0),.nsl=>some true
 |.slice _,.const (.slice none 0 0),.nfl _ _ _=>some false
 |.pointer _,.const (.pointer none),.nilp=>some true
 |.pointer _,.const (.pointer none),.ptr _ _|.pointer _,.const (.pointer none),.eptr _ _ _|.pointer _,.const (.pointer none),.fptr _ _ _ _=>some false
 |.func _ _ _,.const .nilFunc,.nilf=>some true
 |.func _ _ _,.const .nilFunc,.fn _ _=>some false
 |.map _ _,.const (.map none),.nilm=>some true
 |.map _ _,.const (.map none),.map _=>some false
 |_,_,_=>none
def C9:BinOp→Bool→Bool
 |.eql,b=>b
 |_,b=> !b
def Yf:BinOp→Bool
 |.eql|.neq=>true
 |_=>false
def Yg:Operand→Bool
 |.const (.slice none 0 0)|.const (.pointer none)|.const .nilFunc|.const (.map none)=>true
 |_=>false
def He (P:Program)(t:TypeId):Bool:=match P.underlying t with
 |some .bool=>true
 |_=>false
def Nu (P:Program)(eqT:TypeId→Bool)(op:BinOp)(fV:TypeId)(ox oy:Operand)(x y:zI):yJ:=match op,x,y with
 |.shl,.c (.int k a),.c (.int _ b)|.shr,.c (.int k a),.c (.int _ b)=>Yd op k a b
 |_,.c (.int k a),.c (.int j b)=>bif fk k j then Yc op k a b else .stuck
 |.eql,.c (.bool a),.c (.bool b)=>bif He P fV then .one (.c (.bool (la a b))) else .stuck
 |.neq,.c (.bool a),.c (.bool b)=>bif He P fV then .one (.c (.bool (!la a b))) else .stuck
 |.eql,.agg a,.agg b=>bif eqT fV then(match Hd P fV a b with|some r=>.one (.c (.bool r))|none=>.stuck) else .stuck
 |.neq,.agg a,.agg b=>bif eqT fV then(match Hd P fV a b with|some r=>.one (.c (.bool (!r)))|none=>.stuck) else .stuck
 |_,_,_=>.stuck
def Nv (op:UnOp)(x:zI):yJ:=match op,x with
 |.not,.c (.bool b)=>.one (.c (.bool (!b)))
 |.neg,.c (.int k n)=>.one (.c (.int k (k.wrap (0-n))))
 |_,_=>.stuck
def iW (h:Hp):zL→Option ((t:Ty)×List t.den)
 |.fsl _ t xs=>some ⟨t,xs⟩
 |.osl id r=>match h id with
  |some (.arr _ t xs)=>some ⟨t,gq xs r⟩
  |some (.mat _ xs)=>match r with
   |none=>some ⟨.sl (.int .i64),xs⟩
   |some _=>none
  |_=>none
 |.mrow id i ver=>match h id with
  |some (.mat v xs)=>bif Nat.beq v ver then some ⟨.int .i64,xs.getD i []⟩ else none
  |_=>none
 |_=>none
def xw (h:Hp)(v:zL):Option Nat:=match v with
 |.nsl=>some 0
 |.bsl _ _ n=>some n
 |v=>match iW h v with
  |some ⟨_,xs⟩=>some xs.length
  |none=>none
def lV (h:Hp):zL→Option (zL×qH)
 |.osl id r=>match h id with
  |some (.arr _ t xs)=>some (.fsl true t (gq xs r),[(id,.arr false t xs)])
  |some (.mat _ xs)=>match r with
   |none=>some (.fsl true (.sl (.int .i64)) xs,[(id,.arr false (.sl (.int .i64)) xs)])
   |some _=>none
  |_=>none
 |.mrow _ _ _=>none
 |v=>some (v,[])
def ld (h:Hp):List zL→Option (List zL×qH)
 |[]=>some ([],[])
 |v::vs=>match lV h v,ld h vs with
  |some (v,u),some (vs,us)=>some (v::vs,u++us)
  |_,_=>none
def zE (i:Int)(n:Nat):Bool:=decide (0≤i)&&decide (i<(n:Int))
def xx (i:Int)(mk:Nat→zL):Nat→Nat→List (Bool×zI×qH)
 |_,0=>[]
 |j,n+1=>(decide (i=(j:Int)),.c (mk j),[])::xx i mk (j+1) n
def Da (P:Program)(t:TypeId)(cells:List zL)(off:Nat):yJ:=.ofO ((kx cells off (P.cellsOf t)).bind (nM (jH P t)))
def xy (P:Program)(h:Hp)(t:TypeId)(a:zI):yJ:=
 match a with
 |.c (.ptr id off)=>match h id with
  |some (.box _ cells)=>Da P t cells off
  |some (.robox cells)=>Da P t cells off
  |_=>.stuck
 |.c (.fptr sh ty x off)=>Da P t (cellsOf sh ty x) off
 |.c (.eptr id i off)=>match h id with
  |some (.arr _ ty xs)=>Da P t (cellsOf true ty (xs.getD i ty.dflt)) off
  |_=>.stuck
 |.c (.mptr id i)=>match h id with
  |some (.mat ver _)=>match jH P t with|some false=>.one (.c (.mrow id i ver))|_=>.stuck
  |_=>.stuck
 |.c (.meptr id i j ver)=>match h id with
  |some (.mat v xs)=>bif Nat.beq v ver then(match jH P t with|some false=>.one (.c (.int .i64 ((xs.getD i []).getD j 0)))|_=>.stuck) else .stuck
  |_=>.stuck
 |_=>.stuck
def xz (P:Program)(h:Hp)(t:TypeId)(a v:zI):yJ:=
 match mC v with
 |none=>.stuck
 | some vs => bif Nat.beq vs.length (P.cellsOf t) && Nat.blt 0 vs.length then (match a with
  |.c (.ptr id off)=>match h id with
   |some (.box true cells)=>match tK cells off vs with
    |some cells=>.alts [(true,.undef,[(id,.box true cells)])]
    |none=>.stuck
   |_=>.stuck
  |.c (.eptr id i off)=>match h id,ld h vs with
   |some (.arr true ty xs),some (vs,u)=>match oT ty (xs.getD i ty.dflt) off vs with
    |some x=>bif u.any (fun p=>Nat.beq p.1 id) then .stuck else .alts [(true,.undef,u++[(id,.arr true ty (xs.set i x))])]
    |none=>.stuck
   |_,_=>.stuck
  |.c (.mptr id i)=>match h id,v with
   |some (.mat ver xs),.c (.osl jd none)=>match h jd with
    |some (.arr true (.int .i64) ys)=>.alts [(true,.undef,[(jd,.gone),(id,.mat (ver+1) (xs.set i ys))])]
    |_=>.stuck
   |some (.pmat ver xs n),.c (.osl jd none)=>match h jd with
    |some (.arr true (.int .i64) ys)=>.alts [(Nat.beq i xs.length,.undef,[(jd,.gone),(id,.pmat (ver+1) (xs++[ys]) n)])]
    |_=>.stuck
   |_,_=>.stuck
  |.c (.meptr id i j ver)=>match h id,v with
   |some (.mat v xs),.c (.int .i64 n)=>bif Nat.beq v ver then .alts [(true,.undef,[(id,.mat v (xs.set i ((xs.getD i []).set j n)))])] else .stuck
   |_,_=>.stuck
  |_=>.stuck) else .stuck
def Nw (P:Program)(s:TypeId)(a:zI)(f:Nat):yJ:=match P.underlying s with
 |some (.struct fs)=>match fs[f]? with
  | some fd => bif Nat.beq (P.cellsOf fd.type) 0 then .stuck else (match a with
   |.c (.ptr id off)=>.one (.c (.ptr id (off+fd.offset)))
   |.c (.eptr id i off)=>.one (.c (.eptr id i (off+fd.offset)))
   |.c (.fptr sh t x off)=>.one (.c (.fptr sh t x (off+fd.offset)))
   |_=>.stuck)
  |none=>.stuck
 |_=>.stuck
def xA (P:Program)(h:Hp)(t:TypeId)(x i:zI):yJ:=match P.underlying t,x,i with
 |some (.slice e),.c v,.c (.int _ i)=>match v with
  |.fsl sh ty xs=>bif Nat.beq (P.cellsOf e) ty.size then .when (zE i xs.length) (.c (.fptr sh ty (xs.getD i.toNat ty.dflt) 0)) else .stuck
  |.osl id r=>match h id with
   | some (.arr _ ty xs) => bif Nat.beq (P.cellsOf e) ty.size then (match r with
    |none=>.when (zE i xs.length) (.c (.eptr id i.toNat 0))
    |some (lo,n)=>.when (zE i n) (.c (.eptr id (lo+i.toNat) 0))) else .stuck
   | some (.mat _ xs) => bif Nat.beq (P.cellsOf e) 1 then (match r with
    |none=>.when (zE i xs.length) (.c (.mptr id i.toNat))
    |some _=>.stuck) else .stuck
   | some (.pmat _ _ n) => bif Nat.beq (P.cellsOf e) 1 then (match r with
    |none=>.when (zE i n) (.c (.mptr id i.toNat))
    |some _=>.stuck) else .stuck
   |_=>.stuck
  | .mrow id j ver => bif Nat.beq (P.cellsOf e) 1 then (match h id with
   |some (.mat v xs)=>bif Nat.beq v ver then .when (zE i (xs.getD j []).length) (.c (.meptr id j i.toNat ver)) else .stuck
   |_=>.stuck) else .stuck
  |_=>.stuck
 |some (.array n e),.c (.ptr id off),.c (.int _ i)=>bif Nat.beq (P.cellsOf e) 0 then .stuck else .alts (xx i (fun j=>.ptr id (off+j*P.cellsOf e)) 0 n)
 |some (.array n e),.c (.eptr id q off),.c (.int _ i)=>bif Nat.beq (P.cellsOf e) 0 then .stuck else .alts (xx i (fun j=>.eptr id q (off+j*P.cellsOf e)) 0 n)
 |some (.array n e),.c (.fptr sh t x off),.c (.int _ i)=>bif Nat.beq (P.cellsOf e) 0 then .stuck else .alts (xx i (fun j=>.fptr sh t x (off+j*P.cellsOf e)) 0 n)
 |_,_,_=>.stuck
def Nx (P:Program)(t:TypeId)(x i:zI):yJ:=match P.underlying t,x,i with
 |some (.array n e),.agg cs,.c (.int _ i)=>bif Nat.beq (P.cellsOf e) 1&&(match jH P e with|some false=>true|_=>false)&&Nat.beq cs.length n
   then .alts (xx i (fun j=>cs.getD j .undef) 0 n) else .stuck
 |_,_,_=>.stuck
def Ny (P:Program)(s:TypeId)(x:zI)(f:Nat):yJ:=match P.underlying s,x with
 |some (.struct fs),.agg cs=>match fs[f]? with
  |some fd=>match kx cs fd.offset (P.cellsOf fd.type) with
   |some vs=>.ofO (nM (jH P fd.type) vs)
   |none=>.stuck
  |none=>.stuck
 |_,_=>.stuck
def Db (place:Nat→Option (Nat×Nat))(cells:List zL):List (Nat×zI)→Option (List zL)
 |[]=>some cells
 |(i,v)::rest=>match place i,mC v with
  | some (off, size), some vs => bif Nat.beq vs.length size && Nat.ble (off + size) cells.length then (match tK cells off vs with
   |some cells=>Db place cells rest
   |none=>none) else none
  |_,_=>none
def Nz (P:Program)(t:TypeId)(parts:List (Nat×zI)):yJ:=match zeroCells P t with
 |none=>.stuck
 |some zero=>match P.underlying t with
  | some (.struct fs) => bif fs.toList.all (fun f => (P.info? f.type).isSome) then (match Db (fun i=>(fs[i]?).map fun f=>(f.offset,P.cellsOf f.type)) zero parts with
   |some cells=>.one (.agg cells)
   |none=>.stuck) else .stuck
  | some (.array _ e) => bif (P.info? e).isSome then (match Db (fun i=>some (i*P.cellsOf e,P.cellsOf e)) zero parts with
   |some cells=>.one (.agg cells)
   |none=>.stuck) else .stuck
  |_=>.stuck
def tM (h:Hp):zI→Option (List Int×qH)
 |.c (.osl jd none)=>match h jd with
  |some (.arr true (.int .i64) ys)=>some (ys,[(jd,.gone)])
  |_=>none
 |.c .nsl=>some ([],[])
 |_=>none
def tN (h:Hp)(rows:List (List Int)):List (Nat×zI)→Option (List (List Int)×qH)
 |[]=>some (rows,[])
 |(i,v)::rest=>match tM h v with
  |some (r,u)=>match tN h (rows.set i r) rest with
   |some (rows,us)=>some (rows,u++us)
   |none=>none
  |none=>none
def lW (h:Hp)(t:Ty)(xs:List t.den):List (Nat×zI)→Option (List t.den×qH)
 |[]=>some (xs,[])
 |(i,v)::rest=>match mC v with
  |some vs=>match ld h vs with
   |some (vs,u)=>match C7 t vs with
    |some x=>match lW h t (xs.set i x) rest with
     |some (xs,us)=>some (xs,u++us)
     |none=>none
    |none=>none
   |none=>none
  |none=>none
def mD:List Nat→Bool
 |[]=>true
 |a::l=> !(l.any (Nat.beq a))&&mD l
def xB (P:Program)(mat:Bool)(nm:Nat)(h:Hp)(t:TypeId)(n:Nat)(parts:List (Nat×zI)):yJ:=
 match P.underlying t,h nm with
 |some (.slice e),none=>bif Nat.ble (n*P.cellsOf e) 16777216 then
   (bif mat then (match g9 P e,tN h (List.replicate n []) parts with
    |some (.sl (.int .i64)),some (rows,u)=>bif mD (u.map (·.1))&&parts.all (fun p=>Nat.blt p.1 n) then .alts [(true,.c (.osl nm none),u++[(nm,.mat 0 rows)])] else .stuck
    |_,_=>.stuck)
   else (match g9 P e with
    |some ty=>match lW h ty (List.replicate n ty.dflt) parts with
     |some (xs,u)=>bif parts.all (fun p=>Nat.blt p.1 n) then .alts [(true,.c (.osl nm none),u++[(nm,.arr true ty xs)])] else .stuck
     |none=>.stuck
    |none=>.stuck)) else .stuck
 |_,_=>.stuck
def xC (P:Program)(mat:Bool)(nm:Nat)(h:Hp)(t:TypeId)(l c:zI):yJ:=
 match P.underlying t,h nm,l,c with
 |some (.slice e),none,.c (.int .i64 l),.c (.int .i64 c)=>
   let ok:=decide (0≤l)&&decide (l≤c)&&decide (c*(P.bytesOf e:Int)≤70368744177664)&&decide (c≤70368744177664)
   bif mat then (match g9 P e with
    |some (.sl (.int .i64))=>.alts [(ok,.c (.osl nm none),[(nm,.mat 0 (List.replicate l.toNat []))])]
    |_=>.stuck)
   else (match g9 P e with
    |some ty=>.alts [(ok,.c (.osl nm none),[(nm,.arr true ty (List.replicate l.toNat ty.dflt))])]
    |none=>.stuck)
 |_,_,_,_=>.stuck
def Dc (P:Program)(t:TypeId):Bool:=match P.underlying t with
 | some (.map k e) => (match P.underlying k,(P.info? e).bind (·.zero) with
  |some (.int .i64),some (.bool false)=>true
  |_,_=>false)
 |_=>false
def xD (P:Program)(nm:Nat)(h:Hp)(t:TypeId):yJ:=
 match h nm with
 |none=>bif Dc P t then .alts [(true,.c (.map nm),[(nm,.imap [])])] else .stuck
 |some _=>.stuck
def xE (P:Program)(h:Hp)(t:TypeId)(x i:zI):yJ:=
 match x,i with
 | .c (.map id), .c (.int .i64 n) => (match h id with
  |some (.imap cZ)=>bif Dc P t then .one (.c (.bool ((cZ.lookup n).getD false))) else .stuck
  |_=>.stuck)
 |_,_=>.stuck
def xF (P:Program)(h:Hp)(t:TypeId)(x i v:zI):yJ:=
 match x,i,v with
 | .c (.map id), .c (.int .i64 n), .c (.bool b) => (match h id with
  |some (.imap cZ)=>bif Dc P t then .alts [(true,.undef,[(id,.imap ((n,b)::cZ))])] else .stuck
  |_=>.stuck)
 |_,_,_=>.stuck
def rz (len:Nat)(lo hi:Option zI):Option (Bool×Nat×Nat):=
 match lo,hi with
 |none,none=>some (true,0,len)
 |some (.c (.int _ l)),none=>some (decide (0≤l)&&decide (l≤(len:Int)),l.toNat,len)
 |none,some (.c (.int _ u))=>some (decide (0≤u)&&decide (u≤(len:Int)),0,u.toNat)
 |some (.c (.int _ l)),some (.c (.int _ u))=>some (decide (0≤l)&&decide (l≤u)&&decide (u≤(len:Int)),l.toNat,u.toNat)
 |_,_=>none
def tO:List zL→Option (List Int)
 |[]=>some []
 |.int .i64 n::l=>match tO l with|some r=>some (n::r)|none=>none
 |_=>none
def NA (len:Nat):Option (Nat×Nat)→Option zI→Nat
 |none,_=>len
 |some p,none=>p.2
 |some p,some _=>len-p.1
def xG (P:Program)(h:Hp)(t:TypeId)(x:zI)(lo hi mx:Option zI):yJ:=
 match P.underlying t,mx,x with
 | some (.slice e), none, .c (.fsl sh ty xs) => bif Nat.beq (P.cellsOf e) ty.size then (match rz xs.length lo hi with
  | some (ok, l, u) => .when ok (.c (.fsl sh ty (match lo,hi with
   |none,none=>xs
   |some _,none=>xs.drop l
   |none,some _=>xs.take u
   |some _,some _=>yB xs l (u-l))))
  |none=>.stuck) else .stuck
 |some (.slice e),none,.c (.osl id r)=>match h id with
  | some (.arr _ ty xs) => bif Nat.beq (P.cellsOf e) ty.size then (match rz (NA xs.length r hi) lo hi with
   |some (ok,l,u)=>.when ok (.c (.osl id (some ((match r with|none=>0|some p=>p.1)+l,u-l))))
   |none=>.stuck) else .stuck
  |_=>.stuck
 |some (.slice e),some (.c (.int _ m)),.c (.osl id none)=>match h id with
  | some (.arr _ ty xs) => bif Nat.beq (P.cellsOf e) ty.size then (match lo,hi,rz xs.length lo hi with
   |some _,some _,some (ok,_,u)=>.when (ok&&decide ((u:Int)≤m)&&decide (m≤(xs.length:Int))) (.c .undef)
   |_,_,_=>.stuck) else .stuck
  |_=>.stuck
 | some (.array n e), none, .c (.ptr id off) => bif Nat.beq (P.cellsOf e) 1 then (match h id with
  |some (.box own cells)=>match lo,hi with
   |none,none=>bif Nat.ble (off+n) cells.length then .one (.c (.bsl id off n)) else .stuck
   |_,_=>match kx cells off n with
    |some vs=>match tO vs,rz n lo hi with
     |some ns,some (ok,l,u)=>.alts [(ok,.c (.fsl true (.int .i64) (yB ns l (u-l))),[(id,.box false cells)])]
     |_,_=>.stuck
    |none=>.stuck
  |_=>.stuck) else .stuck
 |_,_,_=>.stuck
def oV (h:Hp)(t:Ty):zL→Option (List t.den×qH)
 |.nsl=>some ([],[])
 |.fsl sh s xs=>bif sh||s.flat then(fU s t xs).map (·,[]) else none
 |.nfl sh s xs=>bif sh||s.flat then(fU s t xs).map (·,[]) else none
 |.osl id r=>match h id with
  |some (.arr _ s xs)=>(fU s t (gq xs r)).map (·,[])
  |_=>none
 |_=>none
def xH (P:Program)(mat:Bool)(nm:Nat)(h:Hp)(t:TypeId)(b x:zI):yJ:=
 match P.underlying t,h nm,b,x with
 |some (.slice e),none,.c b,.c x=>match g9 P e with
  |none=>.stuck
  |some ty=>
   let room (n:Nat):Bool:=Nat.ble (n*P.bytesOf e) 70368744177664&&Nat.ble n 70368744177664
   bif mat then (match ty,b,x with
    |.sl (.int .i64),.osl id none,.osl jd none=>match h id,h jd with
     |some (.mat _ xs),some (.mat _ ys)=>bif Nat.beq id jd then .stuck else
       .alts [(room (xs.length+ys.length),.c (.osl nm none),[(id,.gone),(jd,.gone),(nm,.mat 0 (xs++ys))])]
     |_,_=>.stuck
    |_,_,_=>.stuck)
   else (match b with
    |.nsl=>match oV h ty x with
     |some (ys,u)=>.alts [(room ys.length,.c (.osl nm none),u++[(nm,.arr true ty ys)])]
     |none=>.stuck
    |.osl id r=>match h id with
     |some (.arr true s fW)=>match fU s ty (gq fW r),oV h ty x with
      | some xs, some (ys, u) => (match r with
       | some (0, _) | none => (bif (match x with | .osl jd _ => Nat.beq id jd | _ => false) then (match r,x,fU s ty fW with
         |some (0,i),.osl _ (some (j,m)),some zs=>.alts [(Nat.ble i j,.c (.osl nm (some (0,i+m))),[(id,.gone),(nm,.arr true ty (zs.take i++yB zs j m++zs.drop (i+m)))])]
         |_,_,_=>.stuck) else
         .alts [(room (xs.length+ys.length),.c (.osl nm none),u++[(id,.gone),(nm,.arr true ty (xs++ys))])])
       |_=>.stuck)
      |_,_=>.stuck
     |_=>.stuck
    |_=>.stuck)
 |_,_,_,_=>.stuck
def rA (xs:List Int):Nat→List zL→List zL
 |_,[]=>[]
 |i,.int .i64 n::cs=>.int .i64 (bif Nat.blt i xs.length then xs.getD i 0 else n)::rA xs (i+1) cs
 |i,c::cs=>c::rA xs (i+1) cs
def xI (h:Hp)(d s:zI):yJ:=match d,s with
 |.c (.bsl id off n),.c s=>match h id,(match s with|.nsl=>some ⟨.int .i64,[]⟩|s=>iW h s:Option ((t:Ty)×List t.den)) with
  |some (.box true cells),some ⟨.int .i64,ys⟩=>match kx cells off n with
   |some vs=>match tO vs with
    |some _=>.alts [(true,.c (.int .i64 ((min ys.length n:Nat):Int)),[(id,.box true (cells.take off++rA ys 0 vs++cells.drop (off+n)))])]
    |none=>.stuck
   |none=>.stuck
  |_,_=>.stuck
 |_,_=>.stuck
def Hf (P:Program)(h:Hp)(t:TypeId)(id lo n:Nat):yJ:=match P.underlying t,h id with
 |some (.slice e),some (.arr true s xs)=>match g9 P e with
  |some ty=>bif nL ty s then .alts [(true,.undef,[(id,.arr true s (xs.take lo++List.replicate n s.dflt++xs.drop (lo+n)))])] else .stuck
  |none=>.stuck
 |_,_=>.stuck
def Hg (lt:Bool):List zI→yJ
 |[.c (.int k x),.c (.int _ y)]=>.one (.c (.int k (bif lt then(bif decide (y<x) then y else x) else(bif decide (y>x) then y else x))))
 |[.c (.int k x),.c (.int _ y),.c (.int _ z)]=>
  let m (a b:Int):Int:=bif lt then(bif decide (b<a) then b else a) else(bif decide (b>a) then b else a)
  .one (.c (.int k (m (m x y) z)))
 |_=>.stuck
abbrev Hh:=Nat→Nat→Nat→List zI→Hp→yJ
inductive CS where
 |int (k:IntKind)|bool|dat (sh:Bool) (t:Ty)|lit (v:zL)
inductive VS where
 |c (x:CS)|agg (l:List CS)
inductive OS where
 |box (own:Bool) (l:List CS)|robox (l:List CS)|arr (own:Bool) (t:Ty)|mat|pmat|imap
abbrev SL:List CS→Type
 |[]=>Unit
 |.int _::l=>Int×SL l
 |.bool::l=>Bool×SL l
 |.dat _ t::l=>List t.den×SL l
 |.lit _::l=>SL l
def VS.cells:VS→List CS
 |.c x=>[x]
 |.agg l=>l
abbrev SV:List (Nat×VS)→Type
 |[]=>Unit
 |s::l=>SL s.2.cells×SV l
abbrev OS.den:OS→Type
 |.box _ l=>SL l
 |.robox l=>SL l
 |.arr _ t=>List t.den
 |.mat=>List (List Int)
 |.pmat=>List (List Int)×Nat
 |.imap=>List (Int×Bool)
abbrev OL:List OS→Type
 |[]=>Unit
 |o::l=>o.den×OL l
structure zF where
 slots:List (Nat×VS)
 objs:List OS
 grow:List (Nat×Option Nat×Ty×Bool)
abbrev zF.den (S:zF):Type:=SV S.slots×OL S.objs
def Hi:List Nat→List Nat→Bool
 |[],[]=>true
 |a::l,b::m=>Nat.beq a b&&Hi l m
 |_,_=>false
def NB:zL→zL→Bool
 |.undef,_=>true
 |.nsl,.nsl|.nilp,.nilp|.nilf,.nilf|.nilm,.nilm=>true
 |.osl a none,.osl b none=>Nat.beq a b
 |.bsl a i n,.bsl b j m=>Nat.beq a b&&Nat.beq i j&&Nat.beq n m
 |.ptr a i,.ptr b j=>Nat.beq a b&&Nat.beq i j
 |.fn f c,.fn g d=>Nat.beq f g&&Hi c d
 |.map a,.map b=>Nat.beq a b
 |_,_=>false
def ix:(l:List CS)→List zL→Option (SL l)
 |[],[]=>some ()
 |.int k::l,.int j n::vs=>bif fk j k then(match ix l vs with|some d=>some (n,d)|none=>none) else none
 |.bool::l,.bool b::vs=>match ix l vs with|some d=>some (b,d)|none=>none
 | .dat sh t :: l, .fsl Dd s xs :: vs => bif Dd || !sh then (match fU s t xs,ix l vs with
  |some xs,some d=>some (xs,d)
  |_,_=>none) else none
 |.dat _ _::l,.nsl::vs=>match ix l vs with|some d=>some ([],d)|none=>none
 |.lit c::l,v::vs=>bif NB c v then ix l vs else none
 |_,_=>none
def NC (v:VS)(a:zI):Option (SL v.cells):=match v,a with
 |.c x,.c y=>ix [x] [y]
 |.agg l,.agg vs=>ix l vs
 |_,_=>none
def Hj (o:OS)(x:Obj):Option o.den:=match o,x with
 |.box own l,.box lf cells=>bif own==lf then ix l cells else none
 |.robox l,.robox cells=>ix l cells
 |.arr own t,.arr lf s xs=>bif own==lf then fU s t xs else none
 |.mat,.mat _ xs=>some xs
 |.pmat,.pmat _ xs n=>some (xs,n)
 |.imap,.imap cZ=>some cZ
 |_,_=>none
def mE:(l:List CS)→SL l→List zL
 |[],_=>[]
 |.int k::l,d=>.int k d.1::mE l d.2
 |.bool::l,d=>.bool d.1::mE l d.2
 |.dat sh t::l,d=>.fsl sh t d.1::mE l d.2
 |.lit c::l,d=>c::mE l d
def ND (v:VS)(d:SL v.cells):zI:=match v,d with
 |.c x,d=>match mE [x] d with|c::_=>.c c|[]=>.undef
 |.agg l,d=>.agg (mE l d)
def Hk (o:OS)(d:o.den):Obj:=match o,d with
 |.box own l,d=>.box own (mE l d)
 |.robox l,d=>.robox (mE l d)
 |.arr own t,xs=>.arr own t xs
 |.mat,xs=>.mat 0 xs
 |.pmat,d=>.pmat 0 d.1 d.2
 |.imap,cZ=>.imap cZ
def xJ:(l:List (Nat×VS))→SV l→List (Nat×zI)
 |[],_=>[]
 |s::l,d=>(s.1,ND s.2 d.1)::xJ l d.2
def mF:(l:List OS)→OL l→List Obj
 |[],_=>[]
 |o::l,d=>Hk o d.1::mF l d.2
def zS (base:Nat)(S:zF)(d:S.den):St:=
  { t:=fun n=>match(xJ S.slots d.1).lookup n with|some v=>v|none=>.undef,
    h:=fun n=>bif Nat.ble base n then(mF S.objs d.2)[n-base]? else none}
inductive Ex where
 |normal|ret|exit (id:Nat)
def Hl:Ex→Ex→Bool
 |.normal,.normal|.ret,.ret=>true
 |.exit a,.exit b=>Nat.beq a b
 |_,_=>false
abbrev lX:List (Ex×zF)→Type
 |[]=>Empty
 |[p]=>p.2.den
 |p::q::l=>p.2.den⊕lX (q::l)
structure qE where
 inS:zF
 outs:List (Ex×zF)
 X:Type
 sum:Nat→inS.den→Option X
 elim:Nat→X→(R:Type)→(Ex→St→Option R)→Option R
structure zY where
 mats:List Nat
 loops:List (Nat×qE)
 wise:Bool
structure qB where
 P:Program
 eqT:TypeId→Bool
 sums:Hh
def nN (pre:Nat):Option Nat→Nat
 |some d=>pre+100*(d+1)
 |none=>pre
def rC:zI→Option Nat
 |.c (.ptr id 0)=>some id
 |_=>none
def NF (P:Program)(mat:Bool)(nm:Nat)(h:Hp)(b:Builtin)(ts:Array TypeId)(l:List zI):yJ:=match b with
 |.len=>match l with
  |[.c v]=>match(ts[0]?).bind P.underlying with
   |some (.slice _)=>match xw h v with
    |some n=>.one (.c (.int .i64 (n:Int)))
    |none=>.stuck
   |_=>.stuck
  |_=>.stuck
 |.append=>match l with
  |[b,x]=>match ts.toList with
   |[t,u]=>bif Nat.beq t u then xH P mat nm h t b x else .stuck
   |_=>.stuck
  |_=>.stuck
 |.copy=>match l with
  |[d,s]=>match(ts[0]?).bind P.underlying with
   |some (.slice e)=>bif Nat.beq (P.cellsOf e) 1 then xI h d s else .stuck
   |_=>.stuck
  |_=>.stuck
 |.clear=>match l with
  |[.c (.osl id (some (lo,n)))]=>match ts[0]? with
   |some t=>Hf P h t id lo n
   |none=>.stuck
  |_=>.stuck
 |.max=>Hg false l
 |.min=>Hg true l
 |_=>.stuck
def iX (E:qB)(A:zY)(k pre:Nat)(o:Oper)(ev:Operand→zI)(h:Hp):yJ:=
 let nm:=nN pre o.dst
 let mat:=match o.dst with|some d=>A.mats.any (Nat.beq d)|none=>false
 match o.op with
 |.move x|.assign x=>.one (ev x)
 |.pick c a b=>match ev c with
  |.c (.bool c)=>match ev a,ev b with
   |.c (.bool a),.c (.bool b)=>.one (.c (.bool (bif c then a else b)))
   |va,vb=>.alts [(c,va,[]),(true,vb,[])]
  |_=>.stuck
 |.alloc t=>match h nm,zeroCells E.P t with
  |none,some zs=>.alts [(true,.c (.ptr nm 0),[(nm,.box true zs)])]
  |_,_=>.stuck
 |.box t x=>match h nm,mC (ev x) with
  |none,some vs=>.alts [(true,.c (.ptr nm 0),[(nm,.box true vs)])]
  |_,_=>.stuck
 |.build t parts=>Nz E.P t (parts.toList.map fun p=>(p.1,ev p.2))
 |.buildSlice t n parts=>xB E.P mat nm h t n (parts.toList.map fun p=>(p.1,ev p.2))
 |.load t a=>xy E.P h t (ev a)
 |.store t a v=>xz E.P h t (ev a) (ev v)
 |.nilCheck x=>match ev x with
  |.c (.ptr a b)=>.one (.c (.ptr a b))
  |.c (.eptr a b c)=>.one (.c (.eptr a b c))
  |.c (.fptr s t x off)=>.one (.c (.fptr s t x off))
  |.c (.fn f c)=>.one (.c (.fn f c))
  |_=>.stuck
 |.binOp op t x y _=>
  bif Yg y && Yf op then (match E.P.underlying t,ev x with
   |some d,.c v=>match Nt d y v with
    |some b=>.one (.c (.bool (C9 op b)))
    |none=>.stuck
   |_,_=>.stuck)
  else Nu E.P E.eqT op t x y (ev x) (ev y)
 |.unOp op _ x=>Nv op (ev x)
 |.convert s d x=>match E.P.underlying s,E.P.underlying d,ev x with
  |some (.int _),some (.int k),.c (.int _ n)=>.one (.c (.int k (k.wrap n)))
  |_,_,_=>.stuck
 | .makeFunc (.func f) first captured => bif Nat.beq first.size 0 then (match captured.toList.mapM (fun x=>rC (ev x)) with
   |some ids=>.one (.c (.fn f ids))
   |none=>.stuck) else .stuck
 |.makeSlice t l c=>xC E.P mat nm h t (ev l) (ev c)
 |.makeMap t none=>xD E.P nm h t
 |.lookup t x i false=>xE E.P h t (ev x) (ev i)
 |.mapUpdate t x i y=>xF E.P h t (ev x) (ev i) (ev y)
 |.slice t x lo hi mx=>xG E.P h t (ev x) (lo.map ev) (hi.map ev) (mx.map ev)
 |.fieldAddr t x f=>Nw E.P t (ev x) f
 |.field t x f=>Ny E.P t (ev x) f
 |.indexAddr t x i=>xA E.P h t (ev x) (ev i)
 |.index t x i=>Nx E.P t (ev x) (ev i)
 |.extract t i=>match ev t with
  |.tup xs=>match xs[i]? with
   |some (g,vs)=>.ofO (nM (some g) vs)
   |none=>.stuck
  |_=>.stuck
 |.call c=>match c.callee with
  |.builtin b=>NF E.P mat nm h b c.argTypes (c.args.toList.map ev)
  |.value f=>match ev f with
   |.c (.fn f cap)=>E.sums k nm f (c.args.toList.map ev++cap.map fun id=>.c (.ptr id 0)) h
   |_=>.stuck
  |_=>.stuck
 |_=>.stuck
structure rD where
 i:Nat
 nm:Nat
 upd:List Nat
 refs:Option (List Nat)
def vD:zL→List Nat
 |.osl id _|.bsl id _ _|.ptr id _|.eptr id _ _|.mrow id _ _|.mptr id _|.meptr id _ _ _|.map id=>[id]
 |.fn _ cap=>cap
 |_=>[]
def yP:zI→List Nat
 |.c v=>vD v
 |.agg vs=>vs.flatMap vD
 |.tup xs=>xs.flatMap fun x=>x.2.flatMap vD
 |_=>[]
def vK:zI→Bool
 |.c (.ptr _ _)|.c (.map _)|.c (.eptr _ _ _)|.c (.mptr _ _)|.c (.meptr _ _ _ _)|.c (.bsl _ _ _)=>true
 |.c (.fn _ cap)=> !cap.isEmpty
 |_=>false
def NG:Op→Bool
 |.call {callee:=.value _,..}=>true
 |_=>false
def Yh:Op→Bool
 |.move _|.assign _|.nilCheck _|.fieldAddr _ _ _|.field _ _ _|.extract _ _=>true
 |_=>false
def nO (ev:Operand→zI)(o:Oper):Option (List Nat):=bif Yh o.op then some [] else
 let vals:=o.op.operands.toList.map ev
 bif NG o.op&&vals.any vK then none else some (vals.flatMap yP)
def Hm (a:List Nat):Option (List Nat)→Bool
 |none=> !a.isEmpty
 |some b=>a.any fun x=>b.any (Nat.beq x)
def lY (nm a:Nat):Bool:=Nat.ble nm a&&Nat.blt a (nm+100)
def oW (x y:rD):Bool:=Hm x.upd y.refs||Hm y.upd x.refs||x.upd.any (lY y.nm)||y.upd.any (lY x.nm)||x.upd.any fun a=>y.upd.any (Nat.beq a)
def lg (b:Array Nat)(i j:Nat):Bool:=(b.getD j 0).testBit i
def oX (ops:Array Oper)(i j:Nat):Bool:=match ops[i]?,ops[j]? with
 |some x,some y=>x.apart ops y
 |_,_=>false
def De (ops:Array Oper):Bool:=ops.toList.zipIdx.all fun p=>p.1.after.toList.all fun e=> !Region.binds .any e||Nat.blt e.on p.2
def oY (na nt:Nat):Option Nat→Bool
 |some d=>Nat.ble na d&&Nat.blt d nt
 |none=>true
def jM (u:qH):List Nat:=u.map (·.1)
section
variable (E:qB) (A:zY) (k pre na nt:Nat) {R:Type}
def Hn (o:Oper)(st:St)(K:zI→qH→St→Option R):Option R:=
 bif oY na nt o.dst then
  (iX E A k pre o st.ev st.h).elim fun v u=>K v u {t:=gZ st.t o.dst v,h:=qP st.h u}
 else none
def Ho (ops:Array Oper)(j:Nat):Option Nat:=(ops[j]?).bind (·.dst)
def Hq (ops:Array Oper)(o:Oper)(st:St)(yes no:St→Option R):Option R:=match o.guard with
 |none=>yes st
 |some (j,want)=>match Ho ops j with
  |none=>none
  |some s=>match st.t s with
   |.c (.bool b)=>bif b then(let st:={st with t:=jG st.t s (.c (.bool true))};bif want then yes st else no st)
     else(let st:={st with t:=jG st.t s (.c (.bool false))};bif want then no st else yes st)
   |.skp=>no st
   |_=>none
def Df (ops:Array Oper):List (Nat×Oper)→St→(St→Option R)→Option R
 |[],st,K=>K st
 |(_,o)::rest,st,K=>Hq ops o st
   (fun st=>Hn E A k pre na nt o st fun _ _ st=>Df ops rest st K)
   (fun st=>bif oY na nt o.dst then Df ops rest {st with t:=gZ st.t o.dst .skp} K else none)
def xK (ops:Array Oper)(b:Array Nat):List (Nat×Oper)→List rD→St→(St→Option R)→Option R
 |[],_,st,K=>K st
 |(i,o)::rest,done,st,K=>
  bif done.all fun d=>lg b d.i i||oX ops d.i i then Hq ops o st
   (fun st=>let r:=nO st.ev o;Hn E A k pre na nt o st fun _ u st=>
    let x:rD:=⟨i,nN pre o.dst,jM u,r⟩
    bif done.all fun d=>lg b d.i i|| !oW d x then xK ops b rest (x::done) st K else none)
   (fun st=>bif oY na nt o.dst then xK ops b rest (⟨i,nN pre o.dst,[],some []⟩::done) {st with t:=gZ st.t o.dst .skp} K else none)
  else none
def vH5:Option Obj→List Nat
 |some (.box _ cells)=>cells.flatMap vD
 |some (.robox cells)=>cells.flatMap vD
 |_=>[]
def xL (h:Hp):Nat→List Nat→List Nat→List Nat
 |0,_,seen=>seen
 |_,[],seen=>seen
 |n+1,id::todo,seen=>bif seen.any (Nat.beq id) then xL h n todo seen else xL h n (vH5 (h id)++todo) (seen++[id])
def jU (id:Nat):List Nat→Nat→Option Nat
 |[],_=>none
 |a::l,i=>bif Nat.beq a id then some i else jU id l (i+1)
def rE (h:Hp)(ρ:Nat→Option Nat):zL→zL
 |.osl id r=>match ρ id with|some i=>.osl i r|none=>.undef
 |.bsl id a b=>match ρ id with|some i=>.bsl i a b|none=>.undef
 |.ptr id a=>match ρ id with|some i=>.ptr i a|none=>.undef
 |.eptr id a b=>match ρ id with|some i=>.eptr i a b|none=>.undef
 |.mrow id a ver=>match ρ id,h id with
  |some i,some (.mat v _)=>bif Nat.beq v ver then .mrow i a 0 else .undef
  |_,_=>.undef
 |.mptr id a=>match ρ id with|some i=>.mptr i a|none=>.undef
 |.meptr id a b ver=>match ρ id,h id with
  |some i,some (.mat v _)=>bif Nat.beq v ver then .meptr i a b 0 else .undef
  |_,_=>.undef
 |.map id=>match ρ id with|some i=>.map i|none=>.undef
 |.fn f cap=>match cap.mapM ρ with|some c=>.fn f c|none=>.undef
 |v=>v
def Yi (h:Hp)(ρ:Nat→Option Nat):zI→zI
 |.c v=>.c (rE h ρ v)
 |.agg vs=>.agg (vs.map (rE h ρ))
 |.tup xs=>.tup (xs.map fun x=>(x.1,x.2.map (rE h ρ)))
 |v=>v
def rF (h:Hp)(ρ:Nat→Option Nat):Obj→Obj
 |.box own cells=>.box own (cells.map (rE h ρ))
 |.robox cells=>.robox (cells.map (rE h ρ))
 |.mat _ xs=>.mat 0 xs
 |.pmat _ xs n=>.pmat 0 xs n
 |o=>o
def gu:Nat:=1000000
def NH (st:St)(s:Nat):Option Nat→St
 |none=>match st.t s with
  |.c c=>match lV st.h c with
   |some (c',u)=>{t:=jG st.t s (.c c'),h:=qP st.h u}
   |none=>st
  |_=>st
 |some j=>match st.t s with
  |.c (.ptr id 0)=>match st.h id with
   |some (.box true cells)=>match cells[j]? with
    |some c=>match lV st.h c with
     |some (c',u)=>{st with h:=yM (qP st.h u) id (.box true (cells.set j c'))}
     |none=>st
    |none=>st
   |_=>st
  |.agg cells=>match cells[j]? with
   |some c=>match lV st.h c with
    |some (c',u)=>{t:=jG st.t s (.agg (cells.set j c')),h:=qP st.h u}
    |none=>st
   |none=>st
  |_=>st
def Yj:Ty→Bool
 |.bool=>true
 |_=>false
def NI (st:St)(nm:Nat)(g:Nat×Option Nat×Ty×Bool):St:=bif g.2.2.2&&Yj g.2.2.1 then NH st g.1 g.2.1 else match g.2.1 with
 |none=>match st.t g.1 with
  |.c .nsl=>{t:=jG st.t g.1 (.c (.osl nm none)),h:=yM st.h nm (bif g.2.2.2 then .mat 0 [] else .arr true g.2.2.1 [])}
  |_=>st
 |some j=>match st.t g.1 with
  |.c (.ptr id 0)=>match st.h id with
   |some (.box true cells)=>match cells[j]? with
    |some .nsl=>{st with h:=yM (yM st.h nm (bif g.2.2.2 then .mat 0 [] else .arr true g.2.2.1 [])) id (.box true (cells.set j (.osl nm none)))}
    |_=>st
   |_=>st
  |_=>st
def Hr (st:St):Nat→List (Nat×Option Nat×Ty×Bool)→Option St
 |_,[]=>some st
 |nm,g::l=>match st.h nm with
  |none=>Hr (NI st nm g) (nm+1) l
  |some _=>none
def tP (base : Nat) (h : Hp) (ids : List Nat) : Hp := fun n => bif Nat.ble base n then (match ids[n-base]? with
 |some id=>(h id).map (rF h fun i=>(jU i ids 0).map (base+·))
 |none=>none) else none
def Hs (f:zI→zI)(t:Nat→zI):(l:List (Nat×VS))→Option (SV l)
 |[]=>some ()
 |s::l=>match NC s.2 (f (t s.1)),Hs f t l with
  |some d,some ds=>some (d,ds)
  |_,_=>none
def Ht (f:Obj→Obj)(h:Hp):(l:List OS)→List Nat→Option (OL l)
 |[],[]=>some ()
 |o::l,id::ids=>match(h id).bind fun x=>Hj o (f x),Ht f h l ids with
  |some d,some ds=>some (d,ds)
  |_,_=>none
 |_,_=>none
def NJ (g0 base n:Nat)(S:zF)(st:St):Option S.den:=match Hr st g0 S.grow with
 |none=>none
 |some st=>
  let ids:=xL st.h n (S.slots.flatMap fun s=>yP (st.t s.1)) []
  match Hs (Yi st.h fun i=>(jU i ids 0).map (base+·)) st.t S.slots,Ht (rF st.h fun i=>(jU i ids 0).map (base+·)) st.h S.objs ids with
  |some a,some b=>some (a,b)
  |_,_=>none
def xM (S:zF)(st:St):Option S.den:=NJ (pre+500000) (pre+gu) 400 S st
def Dg:(l:List (Ex×zF))→Ex→St→Option (lX l)
 |[],_,_=>none
 |[p],e,st=>bif Hl p.1 e then xM pre p.2 st else none
 |p::q::l,e,st=>bif Hl p.1 e then(match xM pre p.2 st with|some d=>some (.inl d)|none=>none)
   else(match Dg (q::l) e st with|some d=>some (.inr d)|none=>none)
def xN (base:Nat):(l:List (Ex×zF))→lX l→(Ex→St→Option R)→Option R
 |[],_,_=>none
 |[p],d,K=>K p.1 (zS base p.2 d)
 |p::q::l,d,K=>match d with
  |.inl d=>K p.1 (zS base p.2 d)
  |.inr d=>xN base (q::l) d K
def Yk (inS:zF)(outs:List (Ex×zF)){X:Type}(ky:lX outs→X)(again:inS.den→Option X):Ex→St→Option X
 |.normal,st=>match xM pre inS st with
  |some d=>again d
  |none=>none
 |e,st=>match Dg pre outs e st with
  |some o=>some (ky o)
  |none=>none
def xO:Code→Option Nat
 |.region id _ _=>some id
 |.seq a b=>match xO a with|some i=>some i|none=>xO b
 |.cond _ a b=>match xO a with|some i=>some i|none=>xO b
 |.block _ b|.loop b|.scope b=>xO b
 |_=>none
def Dh (b:Code):Option qE:=match xO b with
 |some i=>A.loops.lookup i
 |none=>none
def Hu (c:Operand)(b:Bool)(st:St):St:=match A.wise,c with
 |true,.tmp s=>{st with t:=jG st.t s (.c (.bool b))}
 |_,_=>st
def iy:Code→St→(Ex→St→Option R)→Option R
 |.skip,st,K=>K .normal st
 |.region _ ops draw,st,K=>bif draw
   then bif !De ops then none else xK E A k pre na nt ops (Region.before ops) (ops.toList.zipIdx.map fun p=>(p.2,p.1)) [] st (K .normal)
   else Df E A k pre na nt ops (ops.toList.zipIdx.map fun p=>(p.2,p.1)) st (K .normal)
 |.seq a b,st,K=>iy a st fun e st=>match e with
  |.normal=>iy b st K
  |e=>K e st
 |.cond c a b,st,K=>match st.ev c with
  |.c (.bool t)=>bif t then iy a (Hu A c true st) K else iy b (Hu A c false st) K
  |_=>none
 |.block id b,st,K=>iy b st fun e st=>match e with
  |.exit i=>bif Nat.beq i id then K .normal st else K (.exit i) st
  |e=>K e st
 |.loop b,st,K=>match Dh A b with
  |none=>none
  |some L=>match xM pre L.inS st with
   |none=>none
   |some d=>(L.sum k d).bind fun x=>L.elim (pre+gu) x R K
 |.exit id,st,K=>K (.exit id) st
 |.ret,st,K=>K .ret st
 |_,_,_=>none
def rG (st:St):ResultVar→Option zI
 |.tmp t=>some (st.t t)
 |.cell a t=>match st.t a with
  |.c (.ptr id off)=>match st.h id with
   |some (.box _ cells)=>match kx cells off (E.P.cellsOf t) with
    |some vs=>nM (jH E.P t) vs
    |none=>none
   |_=>none
  |_=>none
def xP:zI→Option (Bool×List zL)
 |.c v=>some (false,[v])
 |.agg vs=>some (true,vs)
 |_=>none
def Hv (fn:Func)(st:St):Option zI:=match fn.results.toList with
 |[]=>some (.tup [])
 |[r]=>rG E st r
 |rs=>match rs.mapM (fun r=>(rG E st r).bind xP) with
  |some xs=>some (.tup xs)
  |none=>none
def Hw (args:List zI):Nat→zI:=fun n=>args.getD n .skp
def kz (fn:Func)(args:List zI)(h:Hp)(K:zI→St→Option R):Option R:=match fn.body with
 |none=>none
 |some code=>bif Nat.ble args.length fn.ntmps then iy E A k pre na fn.ntmps code {t:=Hw args,h:=h} fun e st=>match e with
  |.exit _=>none
  |_=>match Hv E fn st with
   |some v=>K v st
   |none=>none
  else none
end
def _root_.Go.Value.one1:Value→Bool
 |.agg _|.tuple _=>false
 |_=>true
def yF (H:Array Go.Obj)(B o:Nat):Option Value:=match H[B]? with
 |some (.cells c _ _)=>c[o]?
 |_=>none
def qZ (H:Array Go.Obj)(B:Nat):Nat:=match H[B]? with
 |some (.cells c _ _)=>c.size
 |_=>0
theorem oZ (w:World)(B o:Nat):w.cell? ⟨B,o,none⟩=yF w.heap B o:=by
 simp only[World.cell?,yF]
 cases w.heap[B]? with
 |none=>rfl
 |some x=>cases x<;>rfl
theorem NK {H H':Array Go.Obj}{B:Nat}(h:H'[B]? =H[B]?)(o:Nat):yF H' B o=yF H B o:=by unfold yF;rw[h]
theorem xQ {H H':Array Go.Obj}{B:Nat}(h:H'[B]? =H[B]?):qZ H' B=qZ H B:=by unfold qZ;rw[h]
def qF (H:Array Go.Obj)(F:Nat→Prop):(t:Ty)→t.den→(Nat→Option Value)→Prop
 |.int k,n,rd=>rd 0=some (.int k n)
 |.bool,b,rd=>rd 0=some (.bool b)
 |.sl t,xs,rd=>∃A n c,rd 0=some (.slice A n c)∧n=xs.length∧n≤c∧
   ((xs=[]∧(A=none→c=0))∨∃B o,A=some ⟨B,o,none⟩∧F B∧∀i (h:i<xs.length),qF H F t xs[i] (fun j=>yF H B (o+i*t.size+j)))
 |.pair a b,p,rd=>qF H F a p.1 rd∧qF H F b p.2 (fun j=>rd (j+a.size))
theorem yS {H H':Array Go.Obj}{F F':Nat→Prop}(hF:∀b,F b→F' b)(hs:∀b,F b→H'[b]? =H[b]?):
  ∀(t:Ty) (x:t.den) (rd fl:Nat→Option Value),(∀j,j<t.size→fl j=rd j)→qF H F t x rd→qF H' F' t x fl
 |.int k,n,rd,fl,hr,h=>by simp only[qF] at h⊢;rw[hr 0 (by simp[Ty.size])];exact h
 |.bool,n,rd,fl,hr,h=>by simp only[qF] at h⊢;rw[hr 0 (by simp[Ty.size])];exact h
 |.sl t,xs,rd,fl,hr,h=>by
  simp only[qF] at h⊢
  obtain⟨A,n,c,h1,h2,h3,h4⟩:=h
  refine⟨A,n,c,by rw[hr 0 (by simp[Ty.size])];exact h1,h2,h3,?_⟩
  rcases h4 with h4|⟨B,o,e,hB,h4⟩
  ·exact .inl h4
  ·exact .inr ⟨B,o,e,hF B hB,fun i hi=>yS hF hs t _ _ _ (fun j _=>NK (hs B hB) _) (h4 i hi)⟩
 |.pair a b,p,rd,fl,hr,h=>by
  simp only[qF] at h⊢
  exact⟨yS hF hs a _ _ _ (fun j hj=>hr j (by simp only[Ty.size];omega)) h.1,
   yS hF hs b _ _ _ (fun j hj=>hr _ (by simp only[Ty.size];omega)) h.2⟩
theorem Ty.size_pos:∀t:Ty,0<t.size
 |.int _|.bool|.sl _=>by simp[Ty.size]
 |.pair a b=>by have:=Ty.size_pos a;simp only[Ty.size];omega
structure zT where
 blk:Option Nat
 len:Nat
 sz:Nat
 ver:Nat
 rows:List (Option Nat×Nat)
def zT.fp (C:zT):List Nat:=C.blk.toList++C.rows.filterMap (·.1)
structure zT.le (C C':zT):Prop where
 blk:C'.blk=C.blk
 len:C'.len=C.len
 sz:C'.sz=C.sz
 ver:C.ver≤C'.ver
 rows:C'.ver=C.ver→C'.rows=C.rows
theorem zT.le_refl (C:zT):C.le C:=⟨rfl,rfl,rfl,Nat.le_refl _,fun _=>rfl⟩
theorem zT.le_trans {A B C:zT}(h:A.le B)(k:B.le C):A.le C:=
 ⟨k.blk.trans h.blk,k.len.trans h.len,k.sz.trans h.sz,Nat.le_trans h.ver k.ver,fun e=>by
  have:=h.ver;have:=k.ver
  rw[k.rows (by omega),h.rows (by omega)]⟩
structure zC where
 κ:Nat→Option zT
 F:Nat→Prop
 G:Nat→Prop
 h:Hp
 H:Array Go.Obj
def zQ {α β:Type}(R:α→β→Prop):List α→List β→Prop
 |[],[]=>True
 |a::l,b::m=>R a b∧zQ R l m
 |_,_=>False
theorem zQ.mono {α β:Type}{R S:α→β→Prop}(h:∀a b,R a b→S a b):∀{l:List α} {m:List β},zQ R l m→zQ S l m
 |[],[],_=>trivial
 |_::_,_::_,hh=>⟨h _ _ hh.1,zQ.mono h hh.2⟩
 |[],_::_,hh=>hh.elim
 |_::_,[],hh=>hh.elim
theorem zQ.length {α β:Type}{R:α→β→Prop}:∀{l:List α} {m:List β},zQ R l m→l.length=m.length
 |[],[],_=>rfl
 |_::_,_::_,hh=>by simp[zQ.length hh.2]
 |[],_::_,hh=>hh.elim
 |_::_,[],hh=>hh.elim
theorem zQ.get {α β:Type}{R:α→β→Prop}:∀{l:List α} {m:List β},zQ R l m→∀(i:Nat) (h:i<l.length) (h':i<m.length),R l[i] m[i]
 |_::_,_::_,hh,0,_,_=>hh.1
 |_::_,_::_,hh,i+1,h,h'=>zQ.get hh.2 i (by simpa using h) (by simpa using h')
 |[],[],_,_,h,_=>by simp at h
 |[],_::_,hh,_,_,_=>hh.elim
 |_::_,[],hh,_,_,_=>hh.elim
theorem zQ.of_get {α β:Type}{R:α→β→Prop}:∀{l:List α} {m:List β},l.length=m.length→(∀(i:Nat) (h:i<l.length) (h':i<m.length),R l[i] m[i])→zQ R l m
 |[],[],_,_=>trivial
 |a::l,b::m,hl,h=>⟨h 0 (by simp) (by simp),zQ.of_get (by simpa using hl) fun i h1 h2=>h (i+1) (by simpa using h1) (by simpa using h2)⟩
 |[],_::_,hl,_=>by simp at hl
 |_::_,[],hl,_=>by simp at hl
theorem zQ.append {α β:Type}{R:α→β→Prop}:∀{l l':List α} {m m':List β},zQ R l m→zQ R l' m'→zQ R (l++l') (m++m')
 |[],_,[],_,_,k=>k
 |_::_,_,_::_,_,h,k=>⟨h.1,zQ.append h.2 k⟩
 |[],_,_::_,_,hh,_=>hh.elim
 |_::_,_,[],_,hh,_=>hh.elim
theorem zQ.drop {α β:Type}{R:α→β→Prop}:∀(n:Nat) {l:List α} {m:List β},zQ R l m→zQ R (l.drop n) (m.drop n)
 |0,_,_,h=>h
 |n+1,[],[],_=>trivial
 |n+1,_::_,_::_,h=>zQ.drop n h.2
 |n+1,[],_::_,hh=>hh.elim
 |n+1,_::_,[],hh=>hh.elim
theorem zQ.take {α β:Type}{R:α→β→Prop}:∀(n:Nat) {l:List α} {m:List β},zQ R l m→zQ R (l.take n) (m.take n)
 |0,_,_,_=>by simp[zQ]
 |n+1,[],[],_=>trivial
 |n+1,_::_,_::_,h=>⟨h.1,zQ.take n h.2⟩
 |n+1,[],_::_,hh=>hh.elim
 |n+1,_::_,[],hh=>hh.elim
theorem zQ.set {α β:Type}{R:α→β→Prop}{a:α}{b:β}(rH:R a b):∀(n:Nat) {l:List α} {m:List β},zQ R l m→zQ R (l.set n a) (m.set n b)
 |_,[],[],_=>trivial
 |0,_::_,_::_,h=>⟨rH,h.2⟩
 |n+1,_::_,_::_,h=>⟨h.1,zQ.set rH n h.2⟩
 |_,[],_::_,hh=>hh.elim
 |_,_::_,[],hh=>hh.elim
def wK (H:Array Go.Obj)(C:zT)(lo n:Nat)(v:Value):Prop:=∃A c,v=.slice A n c∧match C.blk with
 |none=>A=none∧n=0∧c=0
 |some B=>n≤c∧∃a,A=some ⟨B,a,none⟩∧(c=0∨a=lo*C.sz)∧(lo+c)*C.sz≤qZ H B
def kA (H:Array Go.Obj)(rb:Option Nat)(n:Nat)(v:Value):Prop:=match rb with
 |none=>v=.slice none 0 0∧n=0
 |some B=>∃a c,v=.slice (some ⟨B,a,none⟩) n c∧n≤c∧(c=0∨a=0)∧c≤qZ H B
def NL (C:zT)(lo:Nat)(v:Value):Prop:=∃A n c,v=.slice A n c∧C.len≤lo+c
def zZ (M:zC):zL→Value→Prop
 |.undef,v=>v.one1=true
 |.int k n,v=>v=.int k n
 |.bool b,v=>v=.bool b
 |.fsl sh t xs,v=>qF M.H (bif sh then M.G else M.F) (.sl t) xs (fun _=>some v)
 |.nsl,v=>v=.slice none 0 0
 |.nfl sh t xs,v=>(∃a n c,v=.slice (some a) n c)∧qF M.H (bif sh then M.G else M.F) (.sl t) xs (fun _=>some v)
 |.osl id r,v=>∃C,M.κ id=some C∧match r with
  |none=>wK M.H C 0 C.len v
  |some (lo,n)=>lo+n≤C.len∧wK M.H C lo n v∧NL C lo v
 |.bsl id off n,v=>∃C B,M.κ id=some C∧C.blk=some B∧v=.slice (some ⟨B,off,none⟩) n n
 |.ptr id off,v=>∃C B,M.κ id=some C∧C.blk=some B∧v=.pointer (some ⟨B,off,none⟩)
 |.eptr id i off,v=>∃C B,M.κ id=some C∧C.blk=some B∧i<C.len∧v=.pointer (some ⟨B,i*C.sz+off,none⟩)
 |.fptr sh t x off,v=>∃B o,v=.pointer (some ⟨B,o+off,none⟩)∧(bif sh then M.G else M.F) B∧qF M.H (bif sh then M.G else M.F) t x (fun j=>yF M.H B (o+j))
 |.mrow id i ver,v=>∃C,M.κ id=some C∧v.one1=true∧ver≤C.ver∧(C.ver=ver→∃rb rl,C.rows[i]? =some (rb,rl)∧kA M.H rb rl v)
 |.mptr id i,v=>∃C B,M.κ id=some C∧C.blk=some B∧i<C.len∧v=.pointer (some ⟨B,i,none⟩)
 |.meptr id i j ver,v=>∃C,M.κ id=some C∧v.one1=true∧ver≤C.ver∧(C.ver=ver→∃B rl,C.rows[i]? =some (some B,rl)∧j<rl∧v=.pointer (some ⟨B,j,none⟩))
 |.nilp,v=>v=.pointer none
 |.nilf,v=>v=.nilFunc
 |.nilm,v=>v=.map none
 |.fn f cap,v=>∃cv,v=.func (.func f) #[] cv∧zQ (fun id u=>∃C B,M.κ id=some C∧C.blk=some B∧u=.pointer (some ⟨B,0,none⟩)) cap cv.toList
 |.map id,v=>∃C B,M.κ id=some C∧C.blk=some B∧v=.map (some B)
theorem wK.one {H:Array Go.Obj}{C:zT}{lo n:Nat}{v:Value}(h:wK H C lo n v):v.one1=true:=by
 obtain⟨A,c,rfl,_⟩:=h;rfl
theorem zZ.one {M:zC}{c:zL}{v:Value}(h:zZ M c v):v.one1=true:=by
 cases c with
 |undef=>exact h
 |fsl sh t xs=>obtain⟨A,n,c,e,_⟩:=h;simp at e;rw[e];rfl
 |nfl sh t xs=>obtain⟨⟨a,n,c,e⟩,_⟩:=h;rw[e];rfl
 |osl id r=>
  obtain⟨C,_,h⟩:=h
  cases r with
  |none=>exact wK.one h
  |some p=>exact wK.one h.2.1
 |bsl id off n=>obtain⟨C,B,_,_,rfl⟩:=h;rfl
 |ptr id off=>obtain⟨C,B,_,_,rfl⟩:=h;rfl
 |eptr id i off=>obtain⟨C,B,_,_,_,rfl⟩:=h;rfl
 |fptr sh t x off=>obtain⟨B,o,rfl,_⟩:=h;rfl
 |mrow id i ver=>obtain⟨C,_,h,_⟩:=h;exact h
 |mptr id i=>obtain⟨C,B,_,_,_,rfl⟩:=h;rfl
 |meptr id i j ver=>obtain⟨C,_,h,_⟩:=h;exact h
 |fn f cap=>obtain⟨cv,rfl,_⟩:=h;rfl
 |map id=>obtain⟨C,B,_,_,rfl⟩:=h;rfl
 |_=>rw[show v=_ from h];rfl
def o0 (M:zC)(x:Bool×List zL)(v:Value):Prop:=match x with
 |(false,[c])=>zZ M c v
 |(true,cs)=>∃vs,v=.agg vs∧zQ (zZ M) cs vs.toList
 |_=>False
def qA (M:zC):zI→Value→Prop
 |.undef,_=>True
 |.skp,v=>v=undef
 |.c x,v=>zZ M x v
 |.agg cs,v=>∃vs,v=.agg vs∧zQ (zZ M) cs vs.toList
 |.tup xs,v=>∃vs,v=.tuple vs∧zQ (o0 M) xs vs.toList
def Obj.owned:Obj→Bool
 |.box o _=>o
 |.arr o _ _=>o
 |.robox _=>false
 |.mat _ _=>true
 |.pmat _ _ _=>true
 |.imap _=>true
 |.gone=>false
def jQ (n:Int):List MapEntry→Option Value
 |[]=>none
 |e::es=>match e.key with
  |.int .i64 m=>if n=m then some e.val else jQ n es
  |_=>jQ n es
def yU (M:zC)(o:Obj)(C:zT):Prop:=match o with
 |.box own cells=>∃B vals e,C.blk=some B∧C.rows=[]∧M.H[B]? =some (.cells vals e (0,0))∧zQ (zZ M) cells vals.toList∧(own=false→M.G B)
 |.robox cells=>∃B vals e,C.blk=some B∧C.rows=[]∧M.H[B]? =some (.cells vals e (0,0))∧zQ (zZ M) cells vals.toList∧M.F B
 | .arr own t xs => C.len = xs.length ∧ C.sz = t.size ∧ (own = true → C.rows = []) ∧ (match C.blk with
  |none=>xs=[]
  |some B=>∃vals e,M.H[B]? =some (.cells vals e (0,0))∧(own=false→M.G B)∧xs.length*t.size≤vals.size∧
    ∀i (h:i<xs.length),qF M.H M.G t xs[i] (fun j=>vals[i*t.size+j]?))
 | .mat ver xs => C.ver = ver ∧ C.len = xs.length ∧ C.sz = 1 ∧ C.rows.length = xs.length ∧ C.fp.Nodup ∧ (match C.blk with
  |none=>xs=[]
  |some B=>∃vals e,M.H[B]? =some (.cells vals e (0,0))∧xs.length≤vals.size∧
    ∀i (h:i<xs.length),∃rb v,C.rows[i]? =some (rb,xs[i].length)∧vals[i]? =some v∧kA M.H rb xs[i].length v∧
     (∀R,rb=some R→∃rv er,M.H[R]? =some (.cells rv er (0,0))∧∀j (h':j<xs[i].length),rv[j]? =some (.int .i64 xs[i][j])))
 | .pmat ver xs n => C.ver = ver ∧ C.len = n ∧ C.sz = 1 ∧ C.rows.length = xs.length ∧ C.fp.Nodup ∧ xs.length ≤ n ∧ (match C.blk with
  |none=>n=0
  |some B=>∃vals e,M.H[B]? =some (.cells vals e (0,0))∧n≤vals.size∧
    ∀i (h:i<xs.length),∃rb v,C.rows[i]? =some (rb,xs[i].length)∧vals[i]? =some v∧kA M.H rb xs[i].length v∧
     (∀R,rb=some R→∃rv er,M.H[R]? =some (.cells rv er (0,0))∧∀j (h':j<xs[i].length),rv[j]? =some (.int .i64 xs[i][j])))
 |.imap cZ=>∃B es ck,C.blk=some B∧C.rows=[]∧M.H[B]? =some (.map es ck)∧(∀e∈es.toList,∃n b,e.key=.int .i64 n∧e.val=.bool b)∧
   ∀n,jQ n es.toList=(cZ.lookup n).map .bool
 |.gone=>True
def qU (M:zC)(b:Nat):Prop:=∃id o C,M.h id=some o∧o.owned=true∧M.κ id=some C∧b∈C.fp
structure Ok (M:zC):Prop where
 obj:∀id o,M.h id=some o→∃C,M.κ id=some C∧yU M o C
 non:∀id,M.h id=none→M.κ id=none
 disj:∀i j oi oj Ci Cj b,i≠j→M.h i=some oi→M.h j=some oj→oi.owned=true→oj.owned=true→M.κ i=some Ci→M.κ j=some Cj→b∈Ci.fp→b∈Cj.fp→False
 own:∀b,qU M b→¬M.F b∧b<M.H.size
 GF:∀b,M.G b→M.F b
 Flt:∀b,M.F b→b<M.H.size
structure yW (M M':zC):Prop where
 κ:∀id C,M.κ id=some C→∃C',M'.κ id=some C'∧C.le C'
 F:∀b,M.F b→M'.F b
 G:∀b,M.G b→M'.G b
 same:∀b,M.F b→M'.H[b]? =M.H[b]?
 sameG:∀b,M.G b→M'.H[b]? =M.H[b]?
 bsz:∀b,b<M.H.size→qZ M'.H b=qZ M.H b
theorem vNg {H:Array Go.Obj}{b:Nat}(h:¬b<H.size):qZ H b=0:=by
 unfold qZ;rw[Array.getElem?_eq_none (by omega)]
theorem Yl {M M':zC}(x:yW M M')(b:Nat):qZ M.H b≤qZ M'.H b:=by
 by_cases h:b<M.H.size
 ·rw[x.bsz b h];exact Nat.le_refl _
 ·rw[vNg h];omega
theorem wK.ext {M M':zC}(x:yW M M'){C C':zT}(le:C.le C'){lo n:Nat}{v:Value}(h:wK M.H C lo n v):wK M'.H C' lo n v:=by
 obtain⟨A,c,rfl,h⟩:=h
 refine⟨A,c,rfl,?_⟩
 rw[le.blk]
 cases hb:C.blk with
 |none=>rw[hb] at h;exact h
 |some B=>
  rw[hb] at h
  obtain⟨h0,a,h1,h2,h3⟩:=h
  exact⟨h0,a,h1,by rw[le.sz];exact h2,by rw[le.sz];exact Nat.le_trans h3 (Yl x B)⟩
theorem kA.ext {M M':zC}(x:yW M M'){rb:Option Nat}{n:Nat}{v:Value}(h:kA M.H rb n v):kA M'.H rb n v:=by
 cases rb with
 |none=>exact h
 |some B=>
  obtain⟨a,c,h1,h2,h3,h4⟩:=h
  exact⟨a,c,h1,h2,h3,Nat.le_trans h4 (Yl x B)⟩
theorem zZ.ext {M M':zC}(x:yW M M'){c:zL}{v:Value}(h:zZ M c v):zZ M' c v:=by
 cases c with
 |fsl sh t xs=>
  cases sh with
  |true=>exact yS x.G x.sameG _ _ _ _ (fun _ _=>rfl) h
  |false=>exact yS x.F x.same _ _ _ _ (fun _ _=>rfl) h
 |nfl sh t xs=>
  cases sh with
  |true=>exact⟨h.1,yS x.G x.sameG _ _ _ _ (fun _ _=>rfl) h.2⟩
  |false=>exact⟨h.1,yS x.F x.same _ _ _ _ (fun _ _=>rfl) h.2⟩
 |osl id r=>
  obtain⟨C,hC,h⟩:=h
  obtain⟨C',aC,le⟩:=x.κ id C hC
  refine⟨C',aC,?_⟩
  cases r with
  |none=>rw[le.len];exact wK.ext x le h
  |some p=>exact⟨by rw[le.len];exact h.1,wK.ext x le h.2.1,by unfold NL;rw[le.len];exact h.2.2⟩
 |bsl id off n=>
  obtain⟨C,B,hC,hB,h⟩:=h
  obtain⟨C',aC,le⟩:=x.κ id C hC
  exact⟨C',B,aC,le.blk.trans hB,h⟩
 |ptr id off=>
  obtain⟨C,B,hC,hB,h⟩:=h
  obtain⟨C',aC,le⟩:=x.κ id C hC
  exact⟨C',B,aC,le.blk.trans hB,h⟩
 |eptr id i off=>
  obtain⟨C,B,hC,hB,hi,h⟩:=h
  obtain⟨C',aC,le⟩:=x.κ id C hC
  exact⟨C',B,aC,le.blk.trans hB,by rw[le.len];exact hi,by rw[le.sz];exact h⟩
 |fptr sh t y off=>
  obtain⟨B,o,h1,h2,h3⟩:=h
  cases sh with
  |true=>exact⟨B,o,h1,x.G B h2,yS x.G x.sameG _ _ _ _ (fun j _=>NK (x.sameG B h2) _) h3⟩
  |false=>exact⟨B,o,h1,x.F B h2,yS x.F x.same _ _ _ _ (fun j _=>NK (x.same B h2) _) h3⟩
 |mrow id i ver=>
  obtain⟨C,hC,h1,hle,h⟩:=h
  obtain⟨C',aC,le⟩:=x.κ id C hC
  have:=le.ver
  refine⟨C',aC,h1,by omega,fun e=>?_⟩
  obtain⟨rb,rl,h2,h3⟩:=h (by omega)
  exact⟨rb,rl,by rw[le.rows (by omega)];exact h2,kA.ext x h3⟩
 |mptr id i=>
  obtain⟨C,B,hC,hB,hi,h⟩:=h
  obtain⟨C',aC,le⟩:=x.κ id C hC
  exact⟨C',B,aC,le.blk.trans hB,by rw[le.len];exact hi,h⟩
 |meptr id i j ver=>
  obtain⟨C,hC,h1,hle,h⟩:=h
  obtain⟨C',aC,le⟩:=x.κ id C hC
  have:=le.ver
  refine⟨C',aC,h1,by omega,fun e=>?_⟩
  obtain⟨B,rl,h2,h3⟩:=h (by omega)
  exact⟨B,rl,by rw[le.rows (by omega)];exact h2,h3⟩
 |fn f cap=>
  obtain⟨cv,h1,h2⟩:=h
  refine⟨cv,h1,h2.mono fun id u ⟨C,B,hC,hB,hu⟩=>?_⟩
  obtain⟨C',aC,le⟩:=x.κ id C hC
  exact⟨C',B,aC,le.blk.trans hB,hu⟩
 |map id=>
  obtain⟨C,B,hC,hB,h⟩:=h
  obtain⟨C',aC,le⟩:=x.κ id C hC
  exact⟨C',B,aC,le.blk.trans hB,h⟩
 |_=>exact h
theorem o0.ext {M M':zC}(x:yW M M'){p:Bool×List zL}{v:Value}(h:o0 M p v):o0 M' p v:=by
 obtain⟨b,cs⟩:=p
 cases b with
 |true=>
  obtain⟨vs,h1,h2⟩:=h
  exact⟨vs,h1,h2.mono fun _ _ hc=>hc.ext x⟩
 |false=>
  cases cs with
  |nil=>exact h
  |cons c cs=>cases cs with
   |nil=>exact zZ.ext (c:=c) x h
   |cons _ _=>exact h
theorem qA.ext {M M':zC}(x:yW M M'){a:zI}{v:Value}(h:qA M a v):qA M' a v:=by
 cases a with
 |undef=>trivial
 |skp=>exact h
 |c c=>exact zZ.ext (c:=c) x h
 |agg cs=>
  obtain⟨vs,h1,h2⟩:=h
  exact⟨vs,h1,h2.mono fun _ _ hc=>hc.ext x⟩
 |tup xs=>
  obtain⟨vs,h1,h2⟩:=h
  exact⟨vs,h1,h2.mono fun _ _ hc=>hc.ext x⟩
theorem yU.ext {M M':zC}(x:yW M M'){o:Obj}{C:zT}(hb:o.owned=true→∀b∈C.fp,M'.H[b]? =M.H[b]?)(h:yU M o C):yU M' o C:=by
 cases o with
 |box own cells=>
  obtain⟨B,vals,e,h1,h2,h3,h4,h5⟩:=h
  have hs:M'.H[B]? =M.H[B]? :=by
   cases own with
   |true=>exact hb rfl B (by simp[zT.fp,h1])
   |false=>exact x.sameG B (h5 rfl)
  exact⟨B,vals,e,h1,h2,by rw[hs];exact h3,h4.mono fun _ _ hc=>hc.ext x,fun h=>x.G B (h5 h)⟩
 |robox cells=>
  obtain⟨B,vals,e,h1,h2,h3,h4,h5⟩:=h
  exact⟨B,vals,e,h1,h2,by rw[x.same B h5];exact h3,h4.mono fun _ _ hc=>hc.ext x,x.F B h5⟩
 |arr own t xs=>
  obtain⟨h1,h2,h3,h4⟩:=h
  refine⟨h1,h2,h3,?_⟩
  cases hB:C.blk with
  |none=>rw[hB] at h4;exact h4
  |some B=>
   rw[hB] at h4
   obtain⟨vals,e,h5,h6,h7,h8⟩:=h4
   have hs:M'.H[B]? =M.H[B]? :=by
    cases own with
    |true=>exact hb rfl B (by simp[zT.fp,hB])
    |false=>exact x.sameG B (h6 rfl)
   exact⟨vals,e,by rw[hs];exact h5,fun h=>x.G B (h6 h),h7,fun i hi=>yS x.G x.sameG _ _ _ _ (fun _ _=>rfl) (h8 i hi)⟩
 |mat ver xs=>
  obtain⟨h1,h2,h3,h4,h5,h6⟩:=h
  refine⟨h1,h2,h3,h4,h5,?_⟩
  cases hB:C.blk with
  |none=>rw[hB] at h6;exact h6
  |some B=>
   rw[hB] at h6
   obtain⟨vals,e,h7,h8,h9⟩:=h6
   refine⟨vals,e,by rw[hb rfl B (by simp[zT.fp,hB])];exact h7,h8,fun i hi=>?_⟩
   obtain⟨rb,v,k1,k2,k3,k4⟩:=h9 i hi
   refine⟨rb,v,k1,k2,k3.ext x,fun R hR=>?_⟩
   obtain⟨rv,er,k5,k6⟩:=k4 R hR
   refine⟨rv,er,?_,k6⟩
   rw[hb rfl R ?_]
   ·exact k5
   ·have:(rb,xs[i].length)∈C.rows:=List.mem_of_getElem? k1
    simp only[zT.fp,List.mem_append,List.mem_filterMap]
    exact .inr ⟨_,this,hR⟩
 |pmat ver xs n=>
  obtain⟨h1,h2,h3,h4,h5,h0,h6⟩:=h
  refine⟨h1,h2,h3,h4,h5,h0,?_⟩
  cases hB:C.blk with
  |none=>rw[hB] at h6;exact h6
  |some B=>
   rw[hB] at h6
   obtain⟨vals,e,h7,h8,h9⟩:=h6
   refine⟨vals,e,by rw[hb rfl B (by simp[zT.fp,hB])];exact h7,h8,fun i hi=>?_⟩
   obtain⟨rb,v,k1,k2,k3,k4⟩:=h9 i hi
   refine⟨rb,v,k1,k2,k3.ext x,fun R hR=>?_⟩
   obtain⟨rv,er,k5,k6⟩:=k4 R hR
   refine⟨rv,er,?_,k6⟩
   rw[hb rfl R ?_]
   ·exact k5
   ·have:(rb,xs[i].length)∈C.rows:=List.mem_of_getElem? k1
    simp only[zT.fp,List.mem_append,List.mem_filterMap]
    exact .inr ⟨_,this,hR⟩
 |imap cZ=>
  obtain⟨B,es,ck,h1,h2,h3,h4,h5⟩:=h
  exact⟨B,es,ck,h1,h2,by rw[hb rfl B (by simp[zT.fp,h1])];exact h3,h4,h5⟩
 |gone=>trivial
structure yY (M M':zC):Prop where
 ext:yW M M'
 size:M.H.size≤M'.H.size
 frame:∀b,b<M.H.size→¬qU M b→M'.H[b]? =M.H[b]?
 own:∀b,qU M' b→b<M.H.size→qU M b
 Gb:∀b,M'.G b→b<M.H.size→M.G b∨qU M b
 Fb:∀b,M'.F b→b<M.H.size→M.F b∨qU M b
theorem yW.refl (M:zC):yW M M:=⟨fun _ C h=>⟨C,h,C.le_refl⟩,fun _ h=>h,fun _ h=>h,fun _ _=>rfl,fun _ _=>rfl,fun _ _=>rfl⟩
theorem yY.refl (M:zC):yY M M:=⟨yW.refl M,Nat.le_refl _,fun _ _ _=>rfl,fun _ h _=>h,fun _ h _=>.inl h,fun _ h _=>.inl h⟩
theorem yW.trans {M M' rI:zC}(hs:M.H.size≤M'.H.size)(x:yW M M')(y:yW M' rI):yW M rI where
 κ id C h:=by
  obtain⟨C',h',le⟩:=x.κ id C h
  obtain⟨C'',h'',le'⟩:=y.κ id C' h'
  exact⟨C'',h'',zT.le_trans le le'⟩
 F b h:=y.F b (x.F b h)
 G b h:=y.G b (x.G b h)
 same b h:=(y.same b (x.F b h)).trans (x.same b h)
 sameG b h:=(y.sameG b (x.G b h)).trans (x.sameG b h)
 bsz b h:=(y.bsz b (by omega)).trans (x.bsz b h)
theorem yY.trans {M M' rI:zC}(x:yY M M')(y:yY M' rI):yY M rI where
 ext:=x.ext.trans x.size y.ext
 size:=Nat.le_trans x.size y.size
 frame b h hn:=by
  have:=x.size
  rw[y.frame b (by omega) fun ho=>hn (x.own b ho h),x.frame b h hn]
 own b ho h:=x.own b (y.own b ho (by have:=x.size;omega)) h
 Gb b hg h:=by
  rcases y.Gb b hg (by have:=x.size;omega) with k|k
  ·exact x.Gb b k h
  ·exact .inr (x.own b k h)
 Fb b hg h:=by
  rcases y.Fb b hg (by have:=x.size;omega) with k|k
  ·exact x.Fb b k h
  ·exact .inr (x.own b k h)
theorem Ok.build {M M':zC}(ok:Ok M)(x:yW M M')(T:Nat→Prop)
  (hh:∀id,¬T id→M'.h id=M.h id) (hκ:∀id,¬T id→M'.κ id=M.κ id)
  (keep:∀id o C,¬T id→M.h id=some o→o.owned=true→M.κ id=some C→∀b∈C.fp,M'.H[b]? =M.H[b]?)
  (Dl:∀id o C,¬T id→M.h id=some o→o.owned=true→M.κ id=some C→∀b∈C.fp,¬M'.F b)
  (size:M.H.size≤M'.H.size)
  (obj:∀id o,T id→M'.h id=some o→∃C,M'.κ id=some C∧yU M' o C)
  (non:∀id,T id→M'.h id=none→M'.κ id=none)
  (disj:∀id o C b,T id→M'.h id=some o→o.owned=true→M'.κ id=some C→b∈C.fp→
   (∀j oj Cj,j≠id→M'.h j=some oj→oj.owned=true→M'.κ j=some Cj→b∉Cj.fp)∧¬M'.F b∧b<M'.H.size)
  (GF:∀b,M'.G b→M'.F b) (Flt:∀b,M'.F b→b<M'.H.size):Ok M' where
 obj id o h:=by
  by_cases hT:T id
  ·exact obj id o hT h
  ·rw[hh id hT] at h
   obtain⟨C,hC,hO⟩:=ok.obj id o h
   exact⟨C,by rw[hκ id hT];exact hC,hO.ext x fun ho=>keep id o C hT h ho hC⟩
 non id h:=by
  by_cases hT:T id
  ·exact non id hT h
  ·rw[hκ id hT];exact ok.non id (by rw[←hh id hT];exact h)
 disj i j oi oj Ci Cj b jq hi hj NM NN Hy dm rJ NO:=by
  by_cases NP:T i
  ·exact(disj i oi Ci b NP hi NM Hy rJ).1 j oj Cj (Ne.symm jq) hj NN dm NO
  ·by_cases NQ:T j
   ·exact(disj j oj Cj b NQ hj NN dm NO).1 i oi Ci jq hi NM Hy rJ
   ·rw[hh i NP] at hi;rw[hh j NQ] at hj;rw[hκ i NP] at Hy;rw[hκ j NQ] at dm
    exact ok.disj i j oi oj Ci Cj b jq hi hj NM NN Hy dm rJ NO
 own b hb:=by
  obtain⟨id,o,C,h,ho,hC,hb⟩:=hb
  by_cases hT:T id
  ·exact(disj id o C b hT h ho hC hb).2
  ·rw[hh id hT] at h;rw[hκ id hT] at hC
   have:=ok.own b ⟨id,o,C,h,ho,hC,hb⟩
   exact⟨Dl id o C hT h ho hC b hb,by omega⟩
 GF:=GF
 Flt:=Flt
def κset (κ:Nat→Option zT)(id:Nat)(C:zT):Nat→Option zT:=fun n=>if n=id then some C else κ n
theorem κset_same (κ:Nat→Option zT)(id:Nat)(C:zT):κset κ id C id=some C:=by simp[κset]
theorem κset_ne (κ:Nat→Option zT){id n:Nat}(C:zT)(h:n≠id):κset κ id C n=κ n:=by simp[κset,h]
theorem yQ (h:Hp)(id:Nat)(o:Obj):yM h id o id=some o:=by simp[yM]
theorem yZ (h:Hp){id n:Nat}(o:Obj)(hn:n≠id):yM h id o n=h n:=by
 have:Nat.beq n id=false:=by
  cases hb:Nat.beq n id with
  |true=>exact absurd (Nat.eq_of_beq_eq_true hb) hn
  |false=>rfl
 simp only[yM,this,cond_false]
theorem lh {H:Array Go.Obj}{o:Go.Obj}{b:Nat}(h:b<H.size):(H.push o)[b]? =H[b]? :=by
 rw[Array.getElem?_push,if_neg (by omega)]
theorem tQ {H:Array Go.Obj}{o:Go.Obj}:(H.push o)[H.size]? =some o:=by rw[Array.getElem?_push,if_pos rfl]
def zC.new (M:zC)(id:Nat)(o:Obj)(C:zT)(ob:Go.Obj):zC:={M with κ:=κset M.κ id C,h:=yM M.h id o,H:=M.H.push ob}
theorem zC.new_ext {M:zC}(ok:Ok M){id:Nat}(ah:M.h id=none)(o:Obj)(C:zT)(ob:Go.Obj):yW M (M.new id o C ob) where
 κ n D h:=by
  have:n≠id:=fun e=>by rw[e,ok.non id ah] at h;cases h
  exact⟨D,by simp only[zC.new];rw[κset_ne _ _ this];exact h,D.le_refl⟩
 F _ h:=h
 G _ h:=h
 same b h:=lh (ok.Flt b h)
 sameG b h:=lh (ok.Flt b (ok.GF b h))
 bsz b h:=xQ (lh h)
theorem zC.new_ok {M:zC}(ok:Ok M){id:Nat}(ah:M.h id=none)(o:Obj)(C:zT)(ob:Go.Obj)(hC:∀b∈C.fp,b=M.H.size)
  (hO:yU (M.new id o C ob) o C):Ok (M.new id o C ob)∧yY M (M.new id o C ob):=by
 have x:=zC.new_ext ok ah o C ob
 have dV:(M.new id o C ob).H.size=M.H.size+1:=by simp[zC.new]
 have gv:∀b,qU (M.new id o C ob) b→b=M.H.size∨qU M b:=by
  rintro b ⟨n,q,D,h1,h2,h3,h4⟩
  by_cases e:n=id
  ·subst e
   simp only[zC.new,yQ,κset_same,Option.some.injEq] at h1 h3
   subst h3
   exact .inl (hC b h4)
  ·simp only[zC.new] at h1 h3
   rw[yZ _ _ e] at h1;rw[κset_ne _ _ e] at h3
   exact .inr ⟨n,q,D,h1,h2,h3,h4⟩
 refine⟨ok.build x (· =id) (fun n hn=>yZ _ _ hn) (fun n hn=>κset_ne _ _ hn) ?_ ?_ (by omega) ?_ ?_ ?_ ok.GF ?_,x,by omega,?_,?_,?_,?_⟩
 ·intro n q D hn h1 h2 h3 b hb
  exact lh (ok.own b ⟨n,q,D,h1,h2,h3,hb⟩).2
 ·intro n q D hn h1 h2 h3 b hb
  exact(ok.own b ⟨n,q,D,h1,h2,h3,hb⟩).1
 ·rintro n q rfl h1
  simp only[zC.new,yQ,Option.some.injEq] at h1
  subst h1
  exact⟨C,κset_same _ _ _,hO⟩
 ·rintro n rfl h1
  simp only[zC.new,yQ] at h1
  cases h1
 ·rintro n q D b rfl h1 h2 h3 hb
  simp only[zC.new,κset_same,Option.some.injEq] at h3
  subst h3
  have eb:=hC b hb
  refine⟨fun j oj Cj hj k1 k2 k3 k4=>?_,fun hF=>?_,by omega⟩
  ·simp only[zC.new] at k1 k3
   rw[yZ _ _ hj] at k1;rw[κset_ne _ _ hj] at k3
   have:=(ok.own b ⟨j,oj,Cj,k1,k2,k3,k4⟩).2
   omega
  ·have:=ok.Flt b hF
   omega
 ·intro b hb
  have:=ok.Flt b hb
  omega
 ·intro b hb _
  exact lh hb
 ·intro b hb aU
  rcases gv b hb with e|e
  ·omega
  ·exact e
 ·exact fun b h _=>.inl h
 ·exact fun b h _=>.inl h
def zC.write (M:zC)(id:Nat)(o:Obj)(C:zT)(H:Array Go.Obj):zC:={M with κ:=κset M.κ id C,h:=yM M.h id o,H:=H}
theorem zC.write_ext {M:zC}(ok:Ok M){id:Nat}{o:Obj}{C C':zT}{H':Array Go.Obj}(ah:M.h id=some o)(aM:o.owned=true)(hC:M.κ id=some C)
    (hle:C.le C') (hH:∀b,b∉C.fp→H'[b]? =M.H[b]?) (cH:∀b,b<M.H.size→qZ H' b=qZ M.H b) (o':Obj):yW M (M.write id o' C' H'):=
  have rK:∀b,M.F b→b∉C.fp:=fun b hF hb=>(ok.own b ⟨id,o,C,ah,aM,hC,hb⟩).1 hF
  { κ:=fun n D h=>by
      by_cases e:n=id
      · subst e
        rw[hC] at h
        cases h
        exact⟨C',κset_same _ _ _,hle⟩
      · exact⟨D,by simp only[zC.write];rw[κset_ne _ _ e];exact h,D.le_refl⟩
    F:=fun _ h=>h
    G:=fun _ h=>h
    same:=fun b h=>hH b (rK b h)
    sameG:=fun b h=>hH b (rK b (ok.GF b h))
    bsz:=cH}
theorem zC.write_ok {M:zC}(ok:Ok M){id:Nat}{o o':Obj}{C C':zT}{H':Array Go.Obj}(ah:M.h id=some o)(aM:o.owned=true)(hC:M.κ id=some C)
  (hle:C.le C') (kB:∀b∈C'.fp,b∈C.fp) (dV:H'.size=M.H.size) (hH:∀b,b∉C.fp→H'[b]? =M.H[b]?) (cH:∀b,b<M.H.size→qZ H' b=qZ M.H b)
  (hO:yU (M.write id o' C' H') o' C'):Ok (M.write id o' C' H')∧yY M (M.write id o' C' H'):=by
 have x:=zC.write_ext ok ah aM hC hle hH cH o'
 have gv:∀b,qU (M.write id o' C' H') b→qU M b:=by
  rintro b ⟨n,q,D,h1,h2,h3,h4⟩
  by_cases e:n=id
  ·subst e
   simp only[zC.write,yQ,κset_same,Option.some.injEq] at h1 h3
   subst h3
   exact⟨n,o,C,ah,aM,hC,kB b h4⟩
  ·simp only[zC.write] at h1 h3
   rw[yZ _ _ e] at h1;rw[κset_ne _ _ e] at h3
   exact⟨n,q,D,h1,h2,h3,h4⟩
 refine⟨ok.build x (· =id) (fun n hn=>yZ _ _ hn) (fun n hn=>κset_ne _ _ hn) ?_ ?_ (by simp only[zC.write];omega) ?_ ?_ ?_ ok.GF ?_,x,by simp only[zC.write];omega,?_,?_,?_,?_⟩
 ·intro n q D hn h1 h2 h3 b hb
  exact hH b fun hc=>ok.disj n id q o D C b hn h1 ah h2 aM h3 hC hb hc
 ·intro n q D hn h1 h2 h3 b hb
  exact(ok.own b ⟨n,q,D,h1,h2,h3,hb⟩).1
 ·rintro n q rfl h1
  simp only[zC.write,yQ,Option.some.injEq] at h1
  subst h1
  exact⟨C',κset_same _ _ _,hO⟩
 ·rintro n rfl h1
  simp only[zC.write,yQ] at h1
  cases h1
 ·rintro n q D b rfl h1 h2 h3 hb
  simp only[zC.write,κset_same,Option.some.injEq] at h3
  subst h3
  have bJ:=kB b hb
  have:=ok.own b ⟨n,o,C,ah,aM,hC,bJ⟩
  refine⟨fun j oj Cj hj k1 k2 k3 k4=>?_,this.1,by simp only[zC.write];omega⟩
  simp only[zC.write] at k1 k3
  rw[yZ _ _ hj] at k1;rw[κset_ne _ _ hj] at k3
  exact ok.disj j n oj o Cj C b hj k1 ah k2 aM k3 hC k4 bJ
 ·intro b hb
  have:=ok.Flt b hb
  simp only[zC.write];omega
 ·intro b hb hn
  exact hH b fun hc=>hn ⟨id,o,C,ah,aM,hC,hc⟩
 ·exact fun b hb _=>gv b hb
 ·exact fun b h _=>.inl h
 ·exact fun b h _=>.inl h
def zC.freeze (M:zC)(id:Nat)(o:Obj)(C:zT):zC:={M with h:=yM M.h id o,F:=fun b=>M.F b∨b∈C.fp,G:=fun b=>M.G b∨b∈C.fp}
theorem zC.freeze_ok {M:zC}(ok:Ok M){id:Nat}{o o':Obj}{C:zT}(ah:M.h id=some o)(aM:o.owned=true)(hC:M.κ id=some C)
  (fY:o'.owned=false) (hO:yU (M.freeze id o' C) o' C):Ok (M.freeze id o' C)∧yY M (M.freeze id o' C):=by
 have x:yW M (M.freeze id o' C):=⟨fun _ C h=>⟨C,h,C.le_refl⟩,fun _ h=>.inl h,fun _ h=>.inl h,fun _ _=>rfl,fun _ _=>rfl,fun _ _=>rfl⟩
 have mG:∀b∈C.fp,qU M b:=fun b hb=>⟨id,o,C,ah,aM,hC,hb⟩
 have gv:∀b,qU (M.freeze id o' C) b→qU M b:=by
  rintro b ⟨n,q,D,h1,h2,h3,h4⟩
  by_cases e:n=id
  ·subst e
   simp only[zC.freeze,yQ,Option.some.injEq] at h1
   subst h1
   rw[fY] at h2
   cases h2
  ·simp only[zC.freeze] at h1
   rw[yZ _ _ e] at h1
   exact⟨n,q,D,h1,h2,h3,h4⟩
 refine⟨ok.build x (· =id) (fun n hn=>yZ _ _ hn) (fun n _=>rfl) (fun _ _ _ _ _ _ _ _ _=>rfl) ?_ (Nat.le_refl _) ?_ ?_ ?_ ?_ ?_,x,Nat.le_refl _,fun _ _ _=>rfl,fun b hb _=>gv b hb,?_,?_⟩
 ·rintro n q D hn h1 h2 h3 b hb (hF|hF)
  ·exact(ok.own b ⟨n,q,D,h1,h2,h3,hb⟩).1 hF
  ·exact ok.disj n id q o D C b hn h1 ah h2 aM h3 hC hb hF
 ·rintro n q rfl h1
  simp only[zC.freeze,yQ,Option.some.injEq] at h1
  subst h1
  exact⟨C,hC,hO⟩
 ·rintro n rfl h1
  simp only[zC.freeze,yQ] at h1
  cases h1
 ·rintro n q D b rfl h1 h2 h3 hb
  simp only[zC.freeze,yQ,Option.some.injEq] at h1
  subst h1
  rw[fY] at h2
  cases h2
 ·rintro b (h|h)
  ·exact .inl (ok.GF b h)
  ·exact .inr h
 ·rintro b (h|h)
  ·exact ok.Flt b h
  ·exact(ok.own b (mG b h)).2
 ·rintro b (h|h) _
  ·exact .inl h
  ·exact .inr (mG b h)
 ·rintro b (h|h) _
  ·exact .inl h
  ·exact .inr (mG b h)
end Go.Ab
set_option linter.unusedSimpArgs false
namespace Go.Ab
def Hz:List (Bool×zI×qH)→zI→qH→Prop
 |[],_,_=>False
 |(c,a,b)::l,v,u=>(c=true∧v=a∧u=b)∨(c=false∧Hz l v u)
def yN (s:yJ)(v:zI)(u:qH):Prop:=match s with
 |.alts l=>Hz l v u
 |.call _ x f=>∃r,x=some r∧v=(f r).1∧u=(f r).2
theorem Ym {R:Type}{K:zI→qH→Option R}{out:R}:∀{l:List (Bool×zI×qH)},Nn K l=some out→∃v u,Hz l v u∧K v u=some out
 |[],h=>by cases h
 |(c,a,b)::l,h=>by
  cases c with
  |true=>exact⟨a,b,.inl ⟨rfl,rfl,rfl⟩,h⟩
  |false=>
   obtain⟨v,u,h1,h2⟩:=Ym (l:=l) h
   exact⟨v,u,.inr ⟨rfl,h1⟩,h2⟩
theorem yJ.elim_some {R:Type}{s:yJ}{K:zI→qH→Option R}{out:R}(h:s.elim K=some out):∃v u,yN s v u∧K v u=some out:=by
 cases s with
 |alts l=>exact Ym h
 |call X x f=>
  simp only[yJ.elim,Option.bind_eq_some_iff] at h
  obtain⟨r,h1,h2⟩:=h
  exact⟨_,_,⟨r,h1,rfl,rfl⟩,h2⟩
theorem wF {v a:zI}{u:qH}(h:yN (.one a) v u):v=a∧u=[]:=by
 rcases h with⟨_,h1,h2⟩|⟨h,_⟩
 ·exact⟨h1,h2⟩
 ·cases h
theorem lj {c:Bool}{v a:zI}{u:qH}(h:yN (.when c a) v u):c=true∧v=a∧u=[]:=by
 rcases h with h|⟨_,h⟩
 ·exact h
 ·exact h.elim
theorem fE {c:Bool}{v a:zI}{u b:qH}(h:yN (.alts [(c,a,b)]) v u):c=true∧v=a∧u=b:=by
 rcases h with h|⟨_,h⟩
 ·exact h
 ·exact h.elim
theorem NR {x:Option zI}{v:zI}{u:qH}(h:yN (.ofO x) v u):x=some v∧u=[]:=by
 cases x with
 |none=>exact h.elim
 |some a=>
  obtain⟨rfl,rfl⟩:=wF h
  exact⟨rfl,rfl⟩
section
variable {P:Program} (w:World)
theorem HA {t:TypeId}{d:TypeDesc}(h:P.underlying t=some d):∃i,P.info? t=some i:=by
 unfold Program.underlying at h
 cases hi:P.info? t with
 |none=>rw[hi] at h;cases h
 |some i=>exact⟨i,rfl⟩
theorem NS {t:TypeId}{i:TypeInfo}(h:P.info? t=some i):P.cellsOf t=i.size:=by simp[Program.cellsOf,h]
theorem vJv {t:TypeId}{i:TypeInfo}(h:P.info? t=some i):P.bytesOf t=i.bytes:=by simp[Program.bytesOf,h]
theorem lZ {t:TypeId}(h:0<P.cellsOf t):∃i,P.info? t=some i:=by
 cases hi:P.info? t with
 |none=>simp[Program.cellsOf,hi] at h
 |some i=>exact⟨i,rfl⟩
theorem NT {t:TypeId}{i:TypeInfo}(h:P.info? t=some i):(typeInfo t).run P w=.ok i w:=by simp[typeInfo,h]
theorem gw {t:TypeId}{i:TypeInfo}(h:P.info? t=some i):(sizeOf t).run P w=.ok (P.cellsOf t) w:=by
 rw[NS h];simp[sizeOf,typeInfo,h]
theorem o6 {t:TypeId}{b:Bool}(h:jH P t=some b):(∃d,P.underlying t=some d)∧(isAgg t).run P w=.ok b w:=by
 unfold jH at h
 cases hd:P.underlying t with
 |none=>rw[hd] at h;cases h
 |some d=>
  rw[hd] at h
  refine⟨⟨d,rfl⟩,?_⟩
  cases d<;>simp at h<;>subst h<;>simp[isAgg,run_underlying hd]
theorem Yn {t:TypeId}{cs:List zL}(h:zeroCells P t=some cs):∃i v,P.info? t=some i∧i.zero=some v∧v.cells.size=i.size∧v.cells.toList.all tJ=true∧cs=v.cells.toList.map tI:=by
 unfold zeroCells at h
 split at h
 ·rename_i i hi
  split at h
  ·rename_i v hv
   cases hb:(Nat.beq v.cells.size i.size&&v.cells.toList.all tJ) with
   |false=>rw[hb] at h;cases h
   |true=>
    rw[hb] at h
    simp only[cond_true,Option.some.injEq] at h
    simp only[Bool.and_eq_true] at hb
    exact⟨i,v,hi,hv,Nat.eq_of_beq_eq_true hb.1,hb.2,h.symm⟩
  ·cases h
 ·cases h
end
theorem vDm {v:Value}(h:tJ v=true):v.one1=true:=by cases v<;>first|rfl|cases h
theorem tR {v:Value}(h:v.one1=true):v.oneCell'=true:=by cases v<;>first|rfl|cases h
theorem Yo (M:zC){v:Value}(h:v.one1=true):zZ M (tI v) v:=by
 unfold tI
 split<;>first|rfl|exact h
theorem HB (M:zC):∀{l:List Value},l.all tJ=true→zQ (zZ M) (l.map tI) l
 |[],_=>trivial
 |v::l,h=>by
  simp only[List.all_cons,Bool.and_eq_true] at h
  exact⟨Yo M (vDm h.1),HB M h.2⟩
theorem vBk (M:zC)(v:Value):qA M (No v) v:=by
 unfold No
 split
 ·rename_i cs
  cases hb:cs.toList.all tJ with
  |false=>trivial
  |true=>exact⟨cs,rfl,HB M hb⟩
 ·trivial
 ·rename_i h1 h2
  exact Yo M (by cases v<;>first|rfl|exact absurd rfl (h1 _)|exact absurd rfl (h2 _))
def qQ (P:Program)(s:Sem Value)(M:zC)(w:World)(v:zI)(u:qH):Prop:=
 ∃rv w' M',s.run P w=.ok rv w'∧w'.os=w.os∧w'.tape=w.tape∧w'.output=w.output∧M'.H=w'.heap∧M'.h=qP M.h u∧Ok M'∧yY M M'∧qA M' v rv
theorem qQ.pure {P:Program}{s:Sem Value}{M:zC}{w:World}{v:zI}{rv:Value}(ok:Ok M)(hM:M.H=w.heap)(h:s.run P w=.ok rv w)(hv:qA M v rv):qQ P s M w v []:=
 ⟨rv,w,M,h,rfl,rfl,rfl,hM,rfl,ok,yY.refl M,hv⟩
theorem xR (sh:Bool):∀(t:Ty) (x:t.den),(cellsOf sh t x).length=t.size
 |.int _,_|.bool,_|.sl _,_=>rfl
 |.pair a b,p=>by simp only[cellsOf,List.length_append,xR sh a,xR sh b,Ty.size]
theorem HC (M:zC)(sh:Bool):∀(t:Ty) (x:t.den) (rd:Nat→Option Value),qF M.H (bif sh then M.G else M.F) t x rd→
  ∀j (h:j<(cellsOf sh t x).length),∃v,rd j=some v∧zZ M (cellsOf sh t x)[j] v
 |.int k,n,rd,h,j,hj=>by
  simp only[cellsOf,List.length_singleton] at hj
  obtain rfl:j=0:=by omega
  exact⟨_,h,rfl⟩
 |.bool,n,rd,h,j,hj=>by
  simp only[cellsOf,List.length_singleton] at hj
  obtain rfl:j=0:=by omega
  exact⟨_,h,rfl⟩
 |.sl t,xs,rd,h,j,hj=>by
  simp only[cellsOf,List.length_singleton] at hj
  obtain rfl:j=0:=by omega
  simp only[qF] at h
  obtain⟨A,n,c,h1,h2⟩:=h
  refine⟨_,h1,?_⟩
  show qF _ _ _ _ _
  simp only[qF]
  exact⟨A,n,c,rfl,h2⟩
 |.pair a b,p,rd,h,j,hj=>by
  simp only[qF] at h
  simp only[cellsOf,List.length_append,xR] at hj
  by_cases aU:j<(cellsOf sh a p.1).length
  ·obtain⟨v,h1,h2⟩:=HC M sh a p.1 rd h.1 j aU
   refine⟨v,h1,?_⟩
   simp only[cellsOf,List.getElem_append_left aU]
   exact h2
  ·have eQ:=aU
   rw[xR] at eQ
   obtain⟨v,h1,h2⟩:=HC M sh b p.2 _ h.2 (j-a.size) (by rw[xR];omega)
   refine⟨v,by rw[show j=j-a.size+a.size by omega];exact h1,?_⟩
   have l9:(cellsOf sh a p.1).length≤j:=by omega
   simp only[cellsOf,List.getElem_append_right l9]
   simp only[xR]
   exact h2
theorem Dm {cells vs:List zL}{off n:Nat}(h:kx cells off n=some vs):off+n≤cells.length∧vs=(cells.drop off).take n∧vs.length=n:=by
 unfold kx at h
 cases hb:Nat.ble (off+n) cells.length with
 |false=>rw[hb] at h;cases h
 |true=>
  rw[hb] at h
  simp only[cond_true,Option.some.injEq] at h
  have:=Nat.le_of_ble_eq_true hb
  exact⟨this,h.symm,by rw[←h,List.length_take,List.length_drop];omega⟩
theorem NU {agg:Option Bool}{vs:List zL}{v:zI}(h:nM agg vs=some v):(agg=some true∧v=.agg vs)∨(agg=some false∧∃c,vs=[c]∧v=.c c):=by
 unfold nM at h
 split at h
 ·exact .inl ⟨rfl,(Option.some.inj h).symm⟩
 ·split at h
  ·exact .inr ⟨rfl,_,rfl,(Option.some.inj h).symm⟩
  ·cases h
 ·cases h
theorem Yp {P:Program}{M:zC}{w:World}(ok:Ok M)(hM:M.H=w.heap){t:TypeId}{B o:Nat}{cells vs:List zL}{off:Nat}{v:zI}
  (fF:∀j (h:j<cells.length),∃u,yF M.H B (o+j)=some u∧zZ M cells[j] u)
  (eG:kx cells off (P.cellsOf t)=some vs) (hp:nM (jH P t) vs=some v):
  ∃rv,(loadVar t ⟨B,o+off,none⟩).run P w=.ok rv w∧qA M v rv:=by
 obtain⟨h1,h2,h3⟩:=Dm eG
 have dE:∀j,j<vs.length→∃u,w.cell? ⟨B,o+off+j,none⟩=some u∧∃c,vs[j]? =some c∧zZ M c u:=by
  intro j hj
  obtain⟨u,k1,k2⟩:=fF (off+j) (by omega)
  refine⟨u,by rw[oZ,←hM,Nat.add_assoc];exact k1,cells[off+j],?_,k2⟩
  subst h2
  rw[List.getElem?_take,if_pos (by omega),List.getElem?_drop,List.getElem?_eq_getElem]
 rcases NU hp with⟨dZ,rfl⟩|⟨dZ,c,rfl,rfl⟩
 ·obtain⟨⟨d,hd⟩,hr⟩:=o6 (P:=P) w dZ
  obtain⟨i,hi⟩:=HA hd
  have hf:∃us:List Value,us.length=vs.length∧∀j (h:j<vs.length),∃u c,us[j]? =some u∧w.cell? ⟨B,o+off+j,none⟩=some u∧vs[j]? =some c∧zZ M c u:=by
   refine⟨(List.range vs.length).map fun j=>(w.cell? ⟨B,o+off+j,none⟩).getD undef,by simp,fun j h=>?_⟩
   obtain⟨u,k1,c,k2,k3⟩:=dE j h
   exact⟨u,c,by simp[h,k1],k1,k2,k3⟩
  obtain⟨us,hl,lk⟩:=hf
  have rL := run_loadCells_list (P := P) w ⟨B, o + off, none⟩ us (fun j u hu=>by
   have hj:j<us.length:=by
    rcases Nat.lt_or_ge j us.length with h|h
    ·exact h
    ·rw[List.getElem?_eq_none h] at hu;cases hu
   obtain⟨u',c,k1,k2,_⟩:=lk j (by omega)
   rw[hu] at k1;cases k1
   rw[Addr.add_lit];exact k2)
  refine⟨.agg us.toArray,?_,?_⟩
  ·rw[hl,h3] at rL
   simp[loadVar,hr,gw w hi,rL]
  ·refine⟨us.toArray,rfl,zQ.of_get (by simpa using hl.symm) fun j k1 k2=>?_⟩
   obtain⟨u,c,q1,_,q2,q3⟩:=lk j k1
   have e1:vs[j]=c:=by rw[List.getElem?_eq_getElem k1] at q2;exact Option.some.inj q2
   have e2:us[j]'(by simpa using k2)=u:=by rw[List.getElem?_eq_getElem (by simpa using k2)] at q1;exact Option.some.inj q1
   simp only[e1]
   show zZ M c (us[j]'(by simpa using k2))
   rw[e2];exact q3
 ·obtain⟨⟨d,hd⟩,hr⟩:=o6 (P:=P) w dZ
  obtain⟨u,k1,c',k2,k3⟩:=dE 0 (by simp)
  simp at k2
  subst k2
  refine⟨u,?_,k3⟩
  simp at k1
  simp[loadVar,hr,k1]
theorem HD {P:Program}{M:zC}{w:World}(ok:Ok M)(hM:M.H=w.heap){t:TypeId}{B o:Nat}{cells vs:List zL}{off:Nat}{v:zI}
  (fF:∀j (h:j<cells.length),∃u,yF M.H B (o+j)=some u∧zZ M cells[j] u)
  (eG:kx cells off (P.cellsOf t)=some vs) (hp:nM (jH P t) vs=some v):
  qQ P (loadVar t ⟨B,o+off,none⟩) M w v []:=by
 obtain⟨rv,h1,h2⟩:=Yp (w:=w) ok hM fF eG hp
 exact .pure ok hM h1 h2
theorem iz (P:Program)(w:World)(a:Addr):(Instr.sureAddr (.pointer (some a))).run P w=.ok a w:=rfl
theorem Yq {M:zC}{own:Bool}{cells:List zL}{C:zT}(h:yU M (.box own cells) C):∃B,C.blk=some B∧∀j (h:j<cells.length),∃u,yF M.H B (0+j)=some u∧zZ M cells[j] u:=by
 obtain⟨B,vals,e,h1,h2,h3,h4,h5⟩:=h
 refine⟨B,h1,fun j hj=>?_⟩
 have hl:=h4.length
 have hY:j<vals.size:=by simpa[hl] using hj
 refine⟨vals[j],?_,?_⟩
 ·simp[yF,h3,hY]
 ·have:=h4.get j hj (by simpa using hY)
  simpa using this
theorem vLm {M:zC}{cells:List zL}{C:zT}(h:yU M (.robox cells) C):∃B,C.blk=some B∧∀j (h:j<cells.length),∃u,yF M.H B (0+j)=some u∧zZ M cells[j] u:=by
 obtain⟨B,vals,e,h1,h2,h3,h4,h5⟩:=h
 refine⟨B,h1,fun j hj=>?_⟩
 have hl:=h4.length
 have hY:j<vals.size:=by simpa[hl] using hj
 refine⟨vals[j],?_,?_⟩
 ·simp[yF,h3,hY]
 ·have:=h4.get j hj (by simpa using hY)
  simpa using this
theorem vB1 {M:zC}{own:Bool}{t:Ty}{xs:List t.den}{C:zT}(h:yU M (.arr own t xs) C){i:Nat}(hi:i<xs.length):∃B,C.blk=some B∧
  ∀j (h:j<(cellsOf true t (xs.getD i t.dflt)).length),∃u,yF M.H B (i*C.sz+j)=some u∧zZ M (cellsOf true t (xs.getD i t.dflt))[j] u:=by
 obtain⟨h1,h2,h3,h4⟩:=h
 cases hB:C.blk with
 |none=>rw[hB] at h4;subst h4;simp at hi
 |some B=>
  rw[hB] at h4
  obtain⟨vals,e,h5,h6,h7,h8⟩:=h4
  refine⟨B,rfl,fun j hj=>?_⟩
  have e1:xs.getD i t.dflt=xs[i]:=by simp[List.getD,hi]
  have:=HC M true t xs[i] _ (h8 i hi) j (by rw[←e1];exact hj)
  obtain⟨v,k1,k2⟩:=this
  refine⟨v,?_,?_⟩
  ·rw[h2];simp only[yF,h5];exact k1
  ·simp only[e1];exact k2
theorem HE {P:Program}{t:TypeId}{cells:List zL}{off:Nat}{v:zI}{u:qH}(h:yN (Da P t cells off) v u):
  ∃vs,kx cells off (P.cellsOf t)=some vs∧nM (jH P t) vs=some v∧u=[]:=by
 obtain⟨h',rfl⟩:=NR h
 rw[Option.bind_eq_some_iff] at h'
 obtain⟨vs,h1,h2⟩:=h'
 exact⟨vs,h1,h2,rfl⟩
theorem kA.one {H:Array Go.Obj}{rb:Option Nat}{n:Nat}{v:Value}(h:kA H rb n v):v.one1=true:=by
 cases rb with
 |none=>obtain⟨rfl,_⟩:=h;rfl
 |some R=>obtain⟨a,c,rfl,_⟩:=h;rfl
theorem xS {M:zC}{ver:Nat}{xs:List (List Int)}{C:zT}(h:yU M (.mat ver xs) C){i:Nat}(hi:i<xs.length):∃B rb v,C.blk=some B∧C.ver=ver∧
  C.rows[i]? =some (rb,xs[i].length)∧yF M.H B i=some v∧kA M.H rb xs[i].length v∧(∀R,rb=some R→∀j (h':j<xs[i].length),yF M.H R j=some (.int .i64 xs[i][j])):=by
 obtain⟨q1,q2,q3,q4,q5,q6⟩:=h
 cases hB:C.blk with
 |none=>rw[hB] at q6;subst q6;simp at hi
 |some B=>
  rw[hB] at q6
  obtain⟨vals,e,q7,q8,q9⟩:=q6
  obtain⟨rb,v,k1,k2,k3,k4⟩:=q9 i hi
  refine⟨B,rb,v,rfl,q1,k1,by simp only[yF,q7];exact k2,k3,fun R hR j hj=>?_⟩
  obtain⟨rv,er,k5,k6⟩:=k4 R hR
  simp only[yF,k5];exact k6 j hj
theorem vEw {P:Program}{M:zC}{w:World}(ok:Ok M)(hM:M.H=w.heap){t:TypeId}{a v:zI}{u:qH}{ra:Value}(ha:qA M a ra)
  (h:yN (xy P M.h t a) v u):qQ P (Instr.loadAt t ra) M w v u:=by
 unfold xy at h
 split at h
 ·rename_i id off
  split at h
  ·rename_i own cells ah
   obtain⟨vs,h1,h2,rfl⟩:=HE h
   obtain⟨C,B,hC,hB,rfl⟩:=ha
   obtain⟨C',aC,hO⟩:=ok.obj _ _ ah
   rw[hC] at aC;cases aC
   obtain⟨B',iA,aF⟩:=Yq hO
   rw[hB] at iA;cases iA
   have:=HD (P:=P) ok hM (t:=t) (o:=0) aF h1 h2
   simpa[Instr.loadAt,qQ,iz] using this
  ·rename_i cells ah
   obtain⟨vs,h1,h2,rfl⟩:=HE h
   obtain⟨C,B,hC,hB,rfl⟩:=ha
   obtain⟨C',aC,hO⟩:=ok.obj _ _ ah
   rw[hC] at aC;cases aC
   obtain⟨B',iA,aF⟩:=vLm hO
   rw[hB] at iA;cases iA
   have:=HD (P:=P) ok hM (t:=t) (o:=0) aF h1 h2
   simpa[Instr.loadAt,qQ,iz] using this
  ·exact h.elim
 ·rename_i sh ty x off
  obtain⟨vs,h1,h2,rfl⟩:=HE h
  obtain⟨B,o,rfl,hB,hE⟩:=ha
  have:=HD (P:=P) ok hM (t:=t) (B:=B) (o:=o) (fun j hj=>HC M sh ty x _ hE j hj) h1 h2
  simpa[Instr.loadAt,qQ,iz] using this
 ·rename_i id i off
  split at h
  ·rename_i own ty xs ah
   obtain⟨vs,h1,h2,rfl⟩:=HE h
   obtain⟨C,B,hC,hB,hi,rfl⟩:=ha
   obtain⟨C',aC,hO⟩:=ok.obj _ _ ah
   rw[hC] at aC;cases aC
   obtain⟨B',iA,aF⟩:=vB1 hO (i:=i) (by rw[←hO.1];exact hi)
   rw[hB] at iA;cases iA
   have:=HD (P:=P) ok hM (t:=t) aF h1 h2
   simpa[Instr.loadAt,qQ,iz] using this
  ·exact h.elim
 ·rename_i id i
  split at h
  ·rename_i ver xs ah
   split at h
   ·rename_i dZ
    obtain⟨rfl,rfl⟩:=wF h
    obtain⟨C,B,hC,hB,hi,rfl⟩:=ha
    obtain⟨C',aC,hO⟩:=ok.obj _ _ ah
    rw[hC] at aC;cases aC
    obtain⟨B',rb,x,k0,kv,k1,k2,k3,k4⟩:=xS hO (i:=i) (by rw[←hO.2.1];exact hi)
    rw[hB] at k0;cases k0
    obtain⟨_,hr⟩:=o6 (P:=P) w dZ
    have yF:w.cell? ⟨B,i,none⟩=some x:=by rw[oZ,←hM];exact k2
    exact qQ.pure ok hM (rv:=x) (by simp[Instr.loadAt,iz,loadVar,hr,yF]) ⟨C,hC,k3.one,by omega,fun _=>⟨rb,_,k1,k3⟩⟩
   ·exact h.elim
  ·exact h.elim
 ·rename_i id i j ver
  split at h
  ·rename_i v' xs ah
   cases hv:Nat.beq v' ver with
   |false=>rw[hv] at h;exact h.elim
   |true=>
    rw[hv] at h
    simp only[cond_true] at h
    have hv:=Nat.eq_of_beq_eq_true hv
    subst hv
    split at h
    ·rename_i dZ
     obtain⟨rfl,rfl⟩:=wF h
     obtain⟨C,hC,h1,hle,hm⟩:=ha
     obtain⟨C',aC,hO⟩:=ok.obj _ _ ah
     rw[hC] at aC;cases aC
     obtain⟨R,rl,k1,k2,rfl⟩:=hm hO.1
     have hi:i<xs.length:=by
      rw[←hO.2.2.2.1]
      rcases Nat.lt_or_ge i C.rows.length with h|h
      ·exact h
      ·rw[List.getElem?_eq_none h] at k1;cases k1
     obtain⟨B',rb,x,q0,qv,q1,q2,q3,q4⟩:=xS hO hi
     rw[k1] at q1
     cases q1
     obtain⟨_,hr⟩:=o6 (P:=P) w dZ
     have yF:w.cell? ⟨R,j,none⟩=some (.int .i64 xs[i][j]):=by rw[oZ,←hM];exact q4 R rfl j k2
     refine qQ.pure ok hM (rv:=.int .i64 xs[i][j]) (by simp[Instr.loadAt,iz,loadVar,hr,yF]) ?_
     show _=_
     simp[List.getD,hi,k2]
    ·exact h.elim
  ·exact h.elim
 ·exact h.elim
theorem jt (h:Hp):∀(u v:qH),qP h (u++v)=qP (qP h u) v
 |[],_=>rfl
 |(id,o)::u,v=>jt (yM h id o) u v
theorem NV (h:Hp)(id:Nat)(o:Obj):qP h [(id,o)]=yM h id o:=rfl
theorem Dn {h:Hp}{id:Nat}{o:Obj}(e:h id=some o):yM h id o=h:=by
 funext n
 by_cases hn:n=id
 ·subst hn;rw[yQ];exact e.symm
 ·rw[yZ _ _ hn]
theorem NW:∀(vs:List zL) (cells:List zL) (off:Nat) (out:List zL),tK cells off vs=some out→
  (vs=[]∨off+vs.length≤cells.length)∧out=cells.take off++vs++cells.drop (off+vs.length)
 |[],cells,off,out,h=>by
  simp only[tK,Option.some.injEq] at h
  subst h
  exact⟨.inl rfl,by simp⟩
 |v::vs,cells,off,out,h=>by
  unfold tK at h
  cases hb:Nat.blt off cells.length with
  |false=>rw[hb] at h;cases h
  |true=>
   rw[hb] at h
   simp only[cond_true] at h
   have aU:off<cells.length:=Nat.le_of_ble_eq_true hb
   obtain⟨h1,h2⟩:=NW vs (cells.set off v) (off+1) out h
   rw[List.length_set] at h1
   refine⟨.inr (by rcases h1 with rfl|h1<;>simp only[List.length_cons,List.length_nil]<;>omega),?_⟩
   rw[h2]
   have e1:(cells.set off v).take (off+1)=cells.take off++[v]:=by
    rw[List.take_succ_eq_append_getElem (by simpa using aU),List.take_set_of_le (Nat.le_refl _)]
    simp
   have e2:(cells.set off v).drop (off+1+vs.length)=cells.drop (off+(v::vs).length):=by
    rw[List.drop_set_of_lt (by omega)]
    simp only[List.length_cons]
    congr 1;omega
   rw[e1,e2]
   simp
theorem HF {M:zC}{v:zI}{rv:Value}{vs:List zL}(h:mC v=some vs)(hv:qA M v rv):zQ (zZ M) vs rv.cells.toList:=by
 unfold mC at h
 split at h
 ·rename_i c
  cases h
  have h1:=zZ.one hv
  have:rv.cells=#[rv]:=by cases rv<;>first|rfl|cases h1
  rw[this]
  exact⟨hv,trivial⟩
 ·cases h
  obtain⟨us,rfl,h⟩:=hv
  exact h
 ·cases h
theorem NX {M:zC}:∀{vs:List zL} {us:List Value},zQ (zZ M) vs us→∀u∈us,u.one1=true
 |[],[],_,_,h=>by cases h
 |_::_,u::us,hh,x,h=>by
  cases h with
  |head=>exact hh.1.one
  |tail _ h=>exact NX hh.2 x h
 |[],_::_,hh,_,_=>hh.elim
 |_::_,[],hh,_,_=>hh.elim
def kC (P:Program)(s:Sem Unit)(M:zC)(w:World)(u:qH):Prop:=
 ∃w' M',s.run P w=.ok () w'∧w'.os=w.os∧w'.tape=w.tape∧w'.output=w.output∧M'.H=w'.heap∧M'.h=qP M.h u∧Ok M'∧yY M M'
def yO (vals:Array Value)(off:Nat)(us:List Value):Array Value:=(vals.toList.take off++us++vals.toList.drop (off+us.length)).toArray
theorem fG {vals:Array Value}{off:Nat}{us:List Value}(h:off+us.length≤vals.size):(yO vals off us).size=vals.size:=by
 simp only[yO,List.size_toArray,List.length_append,List.length_take,List.length_drop,Array.length_toList];omega
theorem jC {vals:Array Value}{off:Nat}{us:List Value}(h:off+us.length≤vals.size)(j:Nat):
  (yO vals off us)[j]? =if j<off then vals[j]? else if j<off+us.length then us[j-off]? else vals[j]? :=by
 simp only[yO,List.getElem?_toArray,List.append_assoc]
 by_cases h1:j<off
 ·rw[if_pos h1,List.getElem?_append_left (by simp;omega),List.getElem?_take,if_pos h1];simp
 ·rw[if_neg h1]
  have hl:(vals.toList.take off).length=off:=by simp;omega
  rw[List.getElem?_append_right (by omega),hl]
  by_cases h2:j<off+us.length
  ·rw[if_pos h2,List.getElem?_append_left (by omega)]
  ·rw[if_neg h2,List.getElem?_append_right (by omega),List.getElem?_drop]
   simp only[Array.getElem?_toList]
   congr 1;omega
theorem ma {w:World}{B:Nat}{vals new:Array Value}{e:TypeId}(h:w.heap[B]? =some (.cells vals e (0,0)))(hs:new.size=vals.size):
  (w.setRow B new).heap.size=w.heap.size∧(w.setRow B new).heap[B]? =some (.cells new e (0,0))∧(∀b,b≠B→(w.setRow B new).heap[b]? =w.heap[b]?)∧
  (∀b,qZ (w.setRow B new).heap b=qZ w.heap b):=by
 have h1:=setRow_heap w B vals new e (0,0) h
 have h2:∀b,b≠B→(w.setRow B new).heap[b]? =w.heap[b]? :=fun b hb=>setRow_other w B b new hb
 refine⟨by simp[World.setRow],h1,h2,fun b=>?_⟩
 by_cases hb:b=B
 ·subst hb;simp only[qZ,h1,h];exact hs
 ·exact xQ (h2 b hb)
theorem NY {P:Program}{w:World}{t:TypeId}{B off:Nat}{vals:Array Value}{e:TypeId}{rv:Value}(h:w.heap[B]? =some (.cells vals e (0,0)))
  (hn:rv.cells.size=P.cellsOf t) (h0:0<P.cellsOf t) (aG:off+rv.cells.size≤vals.size) (h1:∀u∈rv.cells.toList,u.one1=true):
  (storeVar t ⟨B,off,none⟩ rv).run P w=.ok () (w.setRow B (yO vals off rv.cells.toList)):=by
 obtain⟨i,hi⟩:=lZ h0
 have fH:=run_storeCells_at (P:=P) B off e rv.cells.toList 0 vals w h (by simpa using aG) (fun v hv=>tR (h1 v hv))
 simp only[Nat.add_zero] at fH
 have:¬rv.cells.size≠P.cellsOf t:=by omega
 simp only[storeVar,Sem.run_bind,gw w hi,Result.andThen_ok,this,if_false]
 exact fH
theorem NZ {M M':zC}(x:yW M M'){cells vs:List zL}{vals:Array Value}{us:List Value}{off:Nat}(h:zQ (zZ M) cells vals.toList)(hv:zQ (zZ M) vs us)
  (aG:off+us.length≤vals.size):zQ (zZ M') (cells.take off++vs++cells.drop (off+vs.length)) (yO vals off us).toList:=by
 have hl:=hv.length
 simp only[yO]
 rw[hl]
 exact((h.take off).append hv|>.append (h.drop _)).mono fun _ _ hc=>hc.ext x
def wN (h0 h:Hp):Prop:=∀id,h id=h0 id∨(∃own t xs,h0 id=some (.arr own t xs)∧h id=some (.arr false t xs))∨
 (∃ver xs,h0 id=some (.mat ver xs)∧h id=some (.arr false (.sl (.int .i64)) xs))
theorem wN.refl (h:Hp):wN h h:=fun _=>.inl rfl
theorem xT {α:Type}{xs:List α}{lo n:Nat}(h:lo+n≤xs.length):(yB xs lo n).length=n:=by
 simp only[yB,List.length_take,List.length_drop];omega
theorem HG {α:Type}{xs:List α}{lo n i:Nat}(h:i<(yB xs lo n).length):∃h':lo+i<xs.length,(yB xs lo n)[i]=xs[lo+i]:=by
 have:lo+i<xs.length:=by simp only[yB,List.length_take,List.length_drop] at h;omega
 exact⟨this,by simp[yB]⟩
theorem Yr {H:Array Go.Obj}{G:Nat→Prop}{C:zT}{t:Ty}{xs:List t.den}{lo n:Nat}{v:Value}(dV:C.sz=t.size)(hn:lo+n≤xs.length)(h:wK H C lo n v)
  (hx:match C.blk with
   |none=>xs=[]
   |some B=>G B∧∃vals e,H[B]? =some (.cells vals e (0,0))∧∀i (h:i<xs.length),qF H G t xs[i] (fun j=>vals[i*t.size+j]?)):
  qF H G (.sl t) (yB xs lo n) (fun _=>some v):=by
 simp only[qF]
 obtain⟨A,c,rfl,h⟩:=h
 cases hB:C.blk with
 |none=>
  rw[hB] at h hx
  obtain⟨rfl,rfl,rfl⟩:=h
  subst hx
  exact⟨none,0,0,rfl,by simp[yB],Nat.le_refl _,.inl ⟨by simp[yB],fun _=>rfl⟩⟩
 |some B=>
  rw[hB] at h hx
  obtain⟨hc,a,rfl,ha,aG⟩:=h
  obtain⟨hG,vals,e,hv,hE⟩:=hx
  have hl:=xT hn
  refine⟨_,n,c,rfl,hl.symm,hc,?_⟩
  by_cases h0:n=0
  ·exact .inl ⟨List.eq_nil_of_length_eq_zero (by omega),fun h=>by cases h⟩
  ·refine .inr ⟨B,a,rfl,hG,fun i hi=>?_⟩
   obtain⟨bM,e1⟩:=HG hi
   rw[e1]
   have mb:a=lo*C.sz:=by rcases ha with ha|ha<;>omega
   have:=hE (lo+i) bM
   have e2:(fun j=>yF H B (a+i*t.size+j))=fun j=>vals[(lo+i)*t.size+j]? :=by
    funext j
    rw[mb,dV,←Nat.add_mul]
    simp only[yF,hv]
   rw[e2]
   exact this
theorem Ys {α:Type}(xs:List α):yB xs 0 xs.length=xs:=by simp[yB]
theorem tS {M:zC}{t:Ty}{xs:List t.den}{C:zT}{id:Nat}{r:Option (Nat×Nat)}{v:Value}(hC:M.κ id=some C)(hO:yU M (.arr false t xs) C)(h:zZ M (.osl id r) v):
  qF M.H M.G (.sl t) (gq xs r) (fun _=>some v):=by
 obtain⟨h1,h2,h3,h4⟩:=hO
 obtain⟨C',aC,h⟩:=h
 rw[hC] at aC;cases aC
 have hx:match C.blk with
   |none=>xs=[]
   |some B=>M.G B∧∃vals e,M.H[B]? =some (.cells vals e (0,0))∧∀i (h:i<xs.length),qF M.H M.G t xs[i] (fun j=>vals[i*t.size+j]?):=by
  cases hB:C.blk with
  |none=>rw[hB] at h4;exact h4
  |some B=>
   rw[hB] at h4
   obtain⟨vals,e,h5,h6,h7,h8⟩:=h4
   exact⟨h6 rfl,vals,e,h5,h8⟩
 cases r with
 |none=>
  have:=Yr (G:=M.G) h2 (lo:=0) (n:=C.len) (by omega) h hx
  rw[h1,Ys] at this
  exact this
 |some p=>
  obtain⟨lo,n⟩:=p
  obtain⟨h5,h6,_⟩:=h
  exact Yr (G:=M.G) h2 (by omega) h6 hx
theorem Yt {M:zC}(ok:Ok M){id:Nat}{t:Ty}{xs:List t.den}(ah:M.h id=some (.arr true t xs)):
  ∃M',M'.H=M.H∧M'.h=yM M.h id (.arr false t xs)∧Ok M'∧yY M M'∧M'.κ=M.κ:=by
 obtain⟨C,hC,hO⟩:=ok.obj id _ ah
 have o9:yU (M.freeze id (.arr false t xs) C) (.arr false t xs) C:=by
  have x:yW M (M.freeze id (.arr false t xs) C):=⟨fun _ C h=>⟨C,h,C.le_refl⟩,fun _ h=>.inl h,fun _ h=>.inl h,fun _ _=>rfl,fun _ _=>rfl,fun _ _=>rfl⟩
  obtain⟨h1,h2,h3,h4⟩:=hO.ext x fun _ _ _=>rfl
  refine⟨h1,h2,fun h=>(by cases h),?_⟩
  cases hB:C.blk with
  |none=>rw[hB] at h4;exact h4
  |some B=>
   rw[hB] at h4
   obtain⟨vals,e,h5,h6,h7,h8⟩:=h4
   exact⟨vals,e,h5,fun _=>.inr (by simp[zT.fp,hB]),h7,h8⟩
 have:=zC.freeze_ok ok ah rfl hC rfl o9
 exact⟨M.freeze id _ C,rfl,rfl,this.1,this.2,rfl⟩
theorem Yu {M:zC}(ok:Ok M){id:Nat}{t:Ty}{xs:List t.den}(ah:M.h id=some (.arr true t xs)):
  ∃M',M'.H=M.H∧M'.h=yM M.h id (.arr false t xs)∧Ok M'∧yY M M':=by
 obtain⟨M',h1,h2,h3,h4,_⟩:=Yt ok ah
 exact⟨M',h1,h2,h3,h4⟩
theorem Yv {M:zC}(ok:Ok M){id:Nat}{ver:Nat}{xs:List (List Int)}(ah:M.h id=some (.mat ver xs)):
  ∃M',M'.H=M.H∧M'.h=yM M.h id (.arr false (.sl (.int .i64)) xs)∧Ok M'∧yY M M'∧M'.κ=M.κ:=by
 obtain⟨C,hC,hO⟩:=ok.obj id _ ah
 have o9:yU (M.freeze id (.arr false (.sl (.int .i64)) xs) C) (.arr false (.sl (.int .i64)) xs) C:=by
  obtain⟨h1,h2,h3,h4,h5,h6⟩:=hO
  refine⟨h2,h3,fun h=>(by cases h),?_⟩
  cases hB:C.blk with
  |none=>rw[hB] at h6;exact h6
  |some B=>
   rw[hB] at h6
   obtain⟨vals,e,h7,h8,h9⟩:=h6
   refine⟨vals,e,h7,fun _=>.inr (by simp[zT.fp,hB]),by simpa[Ty.size] using h8,fun i hi=>?_⟩
   obtain⟨rb,v,k1,k2,k3,k4⟩:=h9 i hi
   simp only[qF,Ty.size,Nat.mul_one,Nat.add_zero]
   cases rb with
   |none=>
    obtain⟨rfl,hl⟩:=k3
    exact⟨none,0,0,k2,hl.symm,Nat.le_refl _,.inl ⟨List.eq_nil_of_length_eq_zero hl,fun _=>rfl⟩⟩
   |some R=>
    obtain⟨a,c,rfl,hc,ha,hs⟩:=k3
    obtain⟨rv,er,k5,k6⟩:=k4 R rfl
    by_cases cf:xs[i]=[]
    ·exact⟨_,_,c,k2,rfl,hc,.inl ⟨cf,fun h=>by cases h⟩⟩
    have kD:a=0:=by
     have:0<xs[i].length:=List.length_pos_iff.2 cf
     rcases ha with ha|ha<;>omega
    subst kD
    refine⟨_,_,c,k2,rfl,hc,.inr ⟨R,0,rfl,.inr ?_,fun j hj=>?_⟩⟩
    ·have:(some R,xs[i].length)∈C.rows:=List.mem_of_getElem? k1
     simp only[zT.fp,List.mem_append,List.mem_filterMap]
     exact .inr ⟨_,this,rfl⟩
    ·have e1:(M.freeze id (Obj.arr false (.sl (.int .i64)) xs) C).H=M.H:=rfl
     simp only[e1,yF,k5,Nat.zero_add]
     exact k6 j hj
 have:=zC.freeze_ok ok ah rfl hC rfl o9
 exact⟨M.freeze id _ C,rfl,rfl,this.1,this.2,rfl⟩
theorem Yw {M:zC}(ok:Ok M){id:Nat}{ver:Nat}{xs:List (List Int)}(ah:M.h id=some (.mat ver xs)):
  ∃M',M'.H=M.H∧M'.h=yM M.h id (.arr false (.sl (.int .i64)) xs)∧Ok M'∧yY M M':=by
 obtain⟨M',h1,h2,h3,h4,_⟩:=Yv ok ah
 exact⟨M',h1,h2,h3,h4⟩
theorem Dp {M:zC}(ok:Ok M){h0:Hp}(hf:wN h0 M.h){c c':zL}{v:Value}{u:qH}(hc:zZ M c v)(h:lV h0 c=some (c',u)):
  ∃M',M'.H=M.H∧M'.h=qP M.h u∧Ok M'∧yY M M'∧zZ M' c' v∧wN h0 M'.h∧(∀p∈u,p.2.owned=false):=by
 have N0 : c' = c → u = [] → _ := fun e1 e2 => (⟨M,rfl,by rw[e2];rfl,ok,yY.refl M,by rw[e1];exact hc,hf,by simp[e2]⟩:
  ∃M',M'.H=M.H∧M'.h=qP M.h u∧Ok M'∧yY M M'∧zZ M' c' v∧wN h0 M'.h∧(∀p∈u,p.2.owned=false))
 cases c with
 |osl id r=>
  have key:∀(t:Ty) (xs:List t.den),(∀M',Ok M'→M'.h id=some (.arr false t xs)→zZ M' (.osl id r) v→zZ M' (.fsl true t (gq xs r)) v):=by
   intro t xs M' iB ll ju
   obtain⟨C,hC,hO⟩:=iB.obj id _ ll
   exact tS hC hO ju
  unfold lV at h
  simp only at h
  split at h
  ·rename_i own t xs gx
   cases h
   rcases hf id with e|⟨o2,t2,N1,e1,e2⟩|⟨ver,N1,e1,e2⟩
   ·rw[gx] at e
    cases own with
    |true=>
     obtain⟨M',h1,h2,iB,bR⟩:=Yu ok e
     refine⟨M',h1,h2,iB,bR,key t xs M' iB (by rw[h2];exact yQ _ _ _) (hc.ext bR.ext),fun n=>?_,by simp[Obj.owned]⟩
     by_cases hn:n=id
     ·subst hn
      exact .inr (.inl ⟨true,t,xs,gx,by rw[h2];exact yQ _ _ _⟩)
     ·rw[h2,yZ _ _ hn];exact hf n
    |false=>exact⟨M,rfl,(Dn e).symm,ok,yY.refl M,key t xs M ok e hc,hf,by simp[Obj.owned]⟩
   ·rw[gx] at e1;cases e1
    exact⟨M,rfl,(Dn e2).symm,ok,yY.refl M,key t xs M ok e2 hc,hf,by simp[Obj.owned]⟩
   ·rw[gx] at e1;cases e1
  ·rename_i ver xs gx
   split at h
   ·cases h
    rcases hf id with e|⟨o2,t2,N1,e1,e2⟩|⟨aai,N1,e1,e2⟩
    ·rw[gx] at e
     obtain⟨M',h1,h2,iB,bR⟩:=Yw ok e
     refine⟨M',h1,h2,iB,bR,key (.sl (.int .i64)) xs M' iB (by rw[h2];exact yQ _ _ _) (hc.ext bR.ext),fun n=>?_,by simp[Obj.owned]⟩
     by_cases hn:n=id
     ·subst hn
      exact .inr (.inr ⟨ver,xs,gx,by rw[h2];exact yQ _ _ _⟩)
     ·rw[h2,yZ _ _ hn];exact hf n
    ·rw[gx] at e1;cases e1
    ·rw[gx] at e1;cases e1
     exact⟨M,rfl,(Dn e2).symm,ok,yY.refl M,key (.sl (.int .i64)) xs M ok e2 hc,hf,by simp[Obj.owned]⟩
   ·cases h
  ·cases h
 |mrow _ _ _=>cases h
 |_=>cases h;exact N0 rfl rfl
theorem N2 {h0:Hp}:∀{cs aR:List zL} {vs:List Value} {u:qH} {M:zC},Ok M→wN h0 M.h→zQ (zZ M) cs vs→ld h0 cs=some (aR,u)→
  ∃M',M'.H=M.H∧M'.h=qP M.h u∧Ok M'∧yY M M'∧zQ (zZ M') aR vs∧wN h0 M'.h∧(∀p∈u,p.2.owned=false)
 |[],aR,[],u,M,ok,hf,_,h=>by cases h;exact⟨M,rfl,rfl,ok,yY.refl M,trivial,hf,by simp⟩
 |c::cs,aR,v::vs,u,M,ok,hf,hc,h=>by
  unfold ld at h
  split at h
  ·rename_i c1 u1 kE nP e1 e2
   cases h
   obtain⟨M1,a1,a2,a3,a4,a5,a6,a7⟩:=Dp ok hf hc.1 e1
   obtain⟨M2,b1,b2,b3,b4,b5,b6,b7⟩:=N2 a3 a6 (hc.2.mono fun _ _ k=>k.ext a4.ext) e2
   refine⟨M2,b1.trans a1,by rw[b2,a2,jt],b3,a4.trans b4,⟨a5.ext b4.ext,b5⟩,b6,fun p hp=>?_⟩
   rcases List.mem_append.1 hp with hp|hp
   ·exact a7 p hp
   ·exact b7 p hp
  ·cases h
 |[],_,_::_,_,_,_,_,hh,_=>hh.elim
 |_::_,_,[],_,_,_,_,hh,_=>hh.elim
theorem iY {a b:Ty}{xs:List a.den}{ys:List b.den}(h:fU a b xs=some ys):∃e:a=b,e▸xs=ys:=by
 unfold fU at h
 split at h
 ·rename_i he
  have:=xu he
  subst this
  exact⟨rfl,Option.some.inj h⟩
 ·cases h
theorem HH {a b:Nat}(h:Nat.blt a b=true):a<b:=Nat.le_of_ble_eq_true h
theorem vR0 {a b:Nat}(h:Nat.blt a b=false):¬a<b:=fun hh=>by
 have:Nat.blt a b=true:=Nat.ble_eq_true_of_le hh
 rw[this] at h;cases h
theorem Yx {k:IntKind}{off:Nat}{c:zL}{n:Int}(h:Np k off c=some n):off=0∧c=.int k n:=by
 unfold Np at h
 split at h
 ·rename_i j m
  cases hb:fk j k with
  |false=>rw[hb] at h;cases h
  |true=>
   rw[hb] at h
   have:=oR hb
   subst this
   cases h
   exact⟨rfl,rfl⟩
 ·cases h
theorem Yy {off:Nat}{c:zL}{n:Bool}(h:Nq off c=some n):off=0∧c=.bool n:=by
 unfold Nq at h
 split at h
 ·cases h;exact⟨rfl,rfl⟩
 ·cases h
theorem Yz {t:Ty}{off:Nat}{c:zL}{xs:List t.den}(h:Nr t off c=some xs):off=0∧(c=.fsl true t xs∨(c=.nsl∧xs=[])):=by
 unfold Nr at h
 split at h
 ·rename_i s ys
  obtain⟨e,h⟩:=iY h
  subst e
  subst h
  exact⟨rfl,.inl rfl⟩
 ·cases h;exact⟨rfl,.inr ⟨rfl,rfl⟩⟩
 ·cases h
theorem YA {a b:Ty}{p q:(Ty.pair a b).den}{off:Nat}{c:zL}(h:oS (.pair a b) p off c=some q):
  (off<a.size∧oS a p.1 off c=some q.1∧q.2=p.2)∨(¬off<a.size∧oS b p.2 (off-a.size) c=some q.2∧q.1=p.1):=by
 simp only[oS] at h
 cases hb:Nat.blt off a.size with
 |true=>
  rw[hb] at h
  simp only[cond_true] at h
  split at h
  ·rename_i x hx
   cases h
   exact .inl ⟨HH hb,hx,rfl⟩
  ·cases h
 |false=>
  rw[hb] at h
  simp only[cond_false] at h
  split at h
  ·rename_i x hx
   cases h
   exact .inr ⟨vR0 hb,hx,rfl⟩
  ·cases h
theorem YB:∀{t:Ty} {x y:t.den} {off:Nat} {c:zL},oS t x off c=some y→off<t.size
 |.int k,x,y,off,c,h=>by rw[(Yx h).1];simp[Ty.size]
 |.bool,x,y,off,c,h=>by rw[(Yy h).1];simp[Ty.size]
 |.sl t,x,y,off,c,h=>by rw[(Yz h).1];simp[Ty.size]
 |.pair a b,x,y,off,c,h=>by
  simp only[Ty.size]
  rcases YA h with⟨h1,_⟩|⟨h1,h2,_⟩
  ·omega
  ·have:=YB h2;omega
theorem N3 {M:zC}:∀(t:Ty) (x y:t.den) (off:Nat) (c:zL) (u:Value) (rd fl:Nat→Option Value),qF M.H M.G t x rd→oS t x off c=some y→zZ M c u→
  fl off=some u→(∀j,j≠off→j<t.size→fl j=rd j)→qF M.H M.G t y fl
 |.int k,x,y,off,c,u,rd,fl,hE,h,hc,hr,fF=>by
  obtain⟨rfl,rfl⟩:=Yx h
  simp only[qF]
  rw[hr,show u=_ from hc]
 |.bool,x,y,off,c,u,rd,fl,hE,h,hc,hr,fF=>by
  obtain⟨rfl,rfl⟩:=Yy h
  simp only[qF]
  rw[hr,show u=_ from hc]
 |.sl t,x,y,off,c,u,rd,fl,hE,h,hc,hr,fF=>by
  obtain⟨rfl,rfl|⟨rfl,rfl⟩⟩:=Yz h
  ·have ju:qF M.H M.G (.sl t) y (fun _=>some u):=hc
   refine yS (fun _ h=>h) (fun _ _=>rfl) _ _ _ _ (fun j hj=>?_) ju
   simp only[Ty.size] at hj
   obtain rfl:j=0:=by omega
   exact hr
  ·simp only[qF]
   exact⟨none,0,0,by rw[hr,show u=_ from hc],rfl,Nat.le_refl _,.inl ⟨by trivial,fun _=>rfl⟩⟩
 |.pair a b,x,y,off,c,u,rd,fl,hE,h,hc,hr,fF=>by
  simp only[qF] at hE⊢
  simp only[Ty.size] at fF
  rcases YA h with⟨h1,h2,h3⟩|⟨h1,h2,h3⟩
  ·refine⟨N3 a _ _ off c u rd fl hE.1 h2 hc hr fun j hj rM=>fF j hj (by omega),?_⟩
   rw[h3]
   exact yS (fun _ h=>h) (fun _ _=>rfl) _ _ _ _ (fun j hj=>fF _ (by omega) (by omega)) hE.2
  ·refine⟨?_,N3 b _ _ (off-a.size) c u _ _ hE.2 h2 hc (by rw[show off-a.size+a.size=off by omega];exact hr) fun j hj rM=>fF _ (by omega) (by omega)⟩
   rw[h3]
   exact yS (fun _ h=>h) (fun _ _=>rfl) _ _ _ _ (fun j hj=>fF _ (by omega) (by omega)) hE.1
theorem YC {t:Ty}:∀{vs:List zL} {x y:t.den} {off:Nat},oT t x off vs=some y→vs=[]∨off+vs.length≤t.size
 |[],_,_,_,_=>.inl rfl
 |v::vs,x,y,off,h=>by
  unfold oT at h
  split at h
  ·rename_i z hz
   have h1:=YB hz
   rcases YC h with rfl|h2
   ·exact .inr (by simp only[List.length_cons,List.length_nil];omega)
   ·exact .inr (by simp only[List.length_cons];omega)
  ·cases h
theorem N4 {M:zC}(t:Ty):∀(vs:List zL) (us:List Value) (x y:t.den) (off:Nat) (rd fl:Nat→Option Value),qF M.H M.G t x rd→oT t x off vs=some y→zQ (zZ M) vs us→
  (∀i,i<us.length→fl (off+i)=us[i]?)→(∀j,(j<off∨off+us.length≤j)→j<t.size→fl j=rd j)→qF M.H M.G t y fl
 |[],[],x,y,off,rd,fl,hE,h,_,_,fF=>by
  cases h
  exact yS (fun _ h=>h) (fun _ _=>rfl) _ _ _ _ (fun j hj=>fF j (by simp;omega) hj) hE
 |v::vs,u::us,x,y,off,rd,fl,hE,h,hc,hr,fF=>by
  unfold oT at h
  split at h
  ·rename_i z hz
   have h1:=N3 t x z off v u rd (fun j=>if j=off then some u else rd j) hE hz hc.1 (by simp) (fun j hj _=>by simp[hj])
   refine N4 t vs us z y (off+1) _ fl h1 h hc.2 (fun i hi=>?_) (fun j hj rM=>?_)
   ·have:=hr (i+1) (by simp;omega)
    rw[show off+1+i=off+(i+1) by omega,this];simp
   ·by_cases e:j=off
    ·subst e
     have:=hr 0 (by simp)
     simp at this
     simp[this]
    ·simp only[e,if_false]
     refine fF j ?_ rM
     simp only[List.length_cons]
     omega
  ·cases h
 |[],_::_,_,_,_,_,_,_,_,hh,_,_=>hh.elim
 |_::_,[],_,_,_,_,_,_,_,hh,_,_=>hh.elim
theorem YD {i k sz j:Nat}(h:i≠k)(hj:j<sz):k*sz+j<i*sz∨i*sz+sz≤k*sz+j:=by
 rcases Nat.lt_or_gt_of_ne h with h|h
 ·have:=Nat.mul_le_mul_right sz (show i+1≤k by omega)
  rw[Nat.add_mul] at this;omega
 ·have:=Nat.mul_le_mul_right sz (show k+1≤i by omega)
  rw[Nat.add_mul] at this;omega
theorem vLt {C:zT}(hn:C.fp.Nodup){i k:Nat}{R R':Nat}{a b:Nat}(hi:C.rows[i]? =some (some R,a))(hk:C.rows[k]? =some (some R',b))(h:i≠k):R≠R':=by
 intro e
 subst e
 have rN:(C.rows.filterMap (·.1)).Nodup:=(List.nodup_append.1 hn).2.1
 clear hn
 have gen:∀(l:List (Option Nat×Nat)) (i k:Nat),i<k→l[i]? =some (some R,a)∨l[i]? =some (some R,b)→l[k]? =some (some R,b)∨l[k]? =some (some R,a)→(l.filterMap (·.1)).Nodup→False:=by
  intro l
  induction l with
  |nil=>intro i k _ h1 _ _;simp at h1
  |cons x l ih=>
   intro i k N5 h1 h2 hn
   obtain⟨k,rfl⟩:∃m,k=m+1:=⟨k-1,by omega⟩
   have cM:R∈l.filterMap (·.1):=by
    simp only[List.getElem?_cons_succ] at h2
    rcases h2 with h2|h2<;>exact List.mem_filterMap.2 ⟨_,List.mem_of_getElem? h2,rfl⟩
   cases i with
   |zero=>
    simp only[List.getElem?_cons_zero,Option.some.injEq] at h1
    have hx:x.1=some R:=by rcases h1 with h1|h1<;>rw[h1]
    rw[List.filterMap_cons_some hx] at hn
    exact(List.nodup_cons.1 hn).1 cM
   |succ i=>
    simp only[List.getElem?_cons_succ] at h1 h2
    refine ih i k (by omega) h1 h2 ?_
    cases hx:x.1 with
    |none=>rwa [List.filterMap_cons_none hx] at hn
    |some y=>rw[List.filterMap_cons_some hx] at hn;exact(List.nodup_cons.1 hn).2
 rcases Nat.lt_or_gt_of_ne h with aU|aU
 ·exact gen C.rows i k aU (.inl hi) (.inl hk) rN
 ·exact gen C.rows k i aU (.inr hk) (.inr hi) rN
theorem N6 {C:zT}(hn:C.fp.Nodup){k R B b:Nat}(hk:C.rows[k]? =some (some R,b))(hB:C.blk=some B):R≠B:=by
 intro e
 subst e
 have:=(List.nodup_append.1 hn).2.2 R (by simp[hB]) R (List.mem_filterMap.2 ⟨_,List.mem_of_getElem? hk,rfl⟩)
 exact this rfl
theorem jV {C:zT}{B:Nat}(h:C.blk=some B):B∈C.fp:=by simp[zT.fp,h]
theorem vCz {C:zT}{k R b:Nat}(h:C.rows[k]? =some (some R,b)):R∈C.fp:=by
 simp only[zT.fp,List.mem_append,List.mem_filterMap]
 exact .inr ⟨_,List.mem_of_getElem? h,rfl⟩
theorem N7 {P:Program}{M:zC}{w:World}(ok:Ok M)(hM:M.H=w.heap){t:TypeId}{id:Nat}{o o':Obj}{C:zT}{B off:Nat}{vals:Array Value}{e:TypeId}{rv:Value}
  (ah:M.h id=some o) (aM:o.owned=true) (hC:M.κ id=some C) (hB:B∈C.fp) (hb:M.H[B]? =some (.cells vals e (0,0)))
  (hn:rv.cells.size=P.cellsOf t) (h0:0<P.cellsOf t) (aG:off+rv.cells.size≤vals.size) (h1:∀u∈rv.cells.toList,u.one1=true)
  (hO:∀M',M'.κ=κset M.κ id C→M'.F=M.F→M'.G=M.G→yW M M'→M'.H[B]? =some (.cells (yO vals off rv.cells.toList) e (0,0))→(∀b,b≠B→M'.H[b]? =M.H[b]?)→yU M' o' C):
  kC P (storeVar t ⟨B,off,none⟩ rv) M w [(id,o')]:=by
 have bJ:w.heap[B]? =some (.cells vals e (0,0)):=by rw[←hM];exact hb
 have hr:=NY (P:=P) bJ hn h0 aG h1
 obtain⟨f1,f2,f3,f4⟩:=ma bJ (new:=yO vals off rv.cells.toList) (fG (by simpa using aG))
 have hH:∀b,b∉C.fp→(w.setRow B (yO vals off rv.cells.toList)).heap[b]? =M.H[b]? :=fun b mH=>by
  rw[hM];exact f3 b fun e=>mH (e▸hB)
 have cH:∀b,b<M.H.size→qZ (w.setRow B (yO vals off rv.cells.toList)).heap b=qZ M.H b:=fun b _=>by rw[hM];exact f4 b
 have x:=zC.write_ext ok ah aM hC C.le_refl hH cH o'
 have:=zC.write_ok ok ah aM hC C.le_refl (fun _ h=>h) (by rw[hM];exact f1) hH cH
  (hO (M.write id o' C _) rfl rfl rfl x f2 (fun b mH=>by rw[hM];exact f3 b mH))
 exact⟨_,_,hr,rfl,rfl,rfl,rfl,rfl,this.1,this.2⟩
theorem vCa {P:Program}{M:zC}{w:World}(ok:Ok M)(hM:M.H=w.heap){t:TypeId}{id off:Nat}{cells bO vs:List zL}{B:Nat}{C:zT}{rv:Value}
  (ah:M.h id=some (.box true cells)) (hC:M.κ id=some C) (hB:C.blk=some B) (dA:zQ (zZ M) vs rv.cells.toList) (hn:vs.length=P.cellsOf t) (h0:0<vs.length)
  (hp:tK cells off vs=some bO):kC P (storeVar t ⟨B,off,none⟩ rv) M w [(id,.box true bO)]:=by
 obtain⟨C',aC,hO⟩:=ok.obj id _ ah
 rw[hC] at aC;cases aC
 obtain⟨B',vals,e,k1,k2,k3,k4,k5⟩:=hO
 rw[hB] at k1;cases k1
 obtain⟨p1,p2⟩:=NW vs cells off bO hp
 have hl:vs.length=rv.cells.size:=by simpa using dA.length
 have aG:off+rv.cells.size≤vals.size:=by
  have:=k4.length
  rcases p1 with rfl|p1
  ·simp at h0
  ·simp at this;omega
 refine N7 ok hM ah rfl hC (jV hB) k3 (by omega) (by omega) aG (NX dA) fun M' _ _ hG x h1 h2=>?_
 refine⟨B,_,e,hB,k2,h1,?_,fun h=>(by cases h)⟩
 rw[p2]
 exact NZ x k4 dA (by simpa using aG)
theorem vOz {P:Program}{M:zC}{w:World}(ok:Ok M)(hM:M.H=w.heap){t:TypeId}{id i off:Nat}{ty:Ty}{xs:List ty.den}{x:ty.den}{vs:List zL}{B:Nat}{C:zT}{rv:Value}
  (ah:M.h id=some (.arr true ty xs)) (hC:M.κ id=some C) (hB:C.blk=some B) (hi:i<C.len) (dA:zQ (zZ M) vs rv.cells.toList) (hn:vs.length=P.cellsOf t) (h0:0<vs.length)
  (hp:oT ty (xs.getD i ty.dflt) off vs=some x):kC P (storeVar t ⟨B,i*C.sz+off,none⟩ rv) M w [(id,.arr true ty (xs.set i x))]:=by
 obtain⟨C',aC,hO⟩:=ok.obj id _ ah
 rw[hC] at aC;cases aC
 obtain⟨k1,k2,k3,k4⟩:=hO
 rw[hB] at k4
 obtain⟨vals,e,k5,k6,k7,k8⟩:=k4
 have hl:vs.length=rv.cells.size:=by simpa using dA.length
 have aaj:off+vs.length≤ty.size:=by
  rcases YC hp with rfl|h
  ·simp at h0
  ·exact h
 have Dq:i<xs.length:=by omega
 have e1:xs.getD i ty.dflt=xs[i]:=by simp[List.getD,Dq]
 have aP:=Nat.mul_le_mul_right ty.size (show i+1≤xs.length by omega)
 rw[Nat.add_mul] at aP
 have aG:i*C.sz+off+rv.cells.size≤vals.size:=by rw[k2];omega
 refine N7 ok hM ah rfl hC (jV hB) k5 (by omega) (by omega) aG (NX dA) fun M' _ _ hG xt h1 h2=>?_
 refine⟨by rw[List.length_set];exact k1,k2,k3,?_⟩
 rw[hB]
 refine⟨_,e,h1,fun h=>(by cases h),by rw[List.length_set,fG (by simpa using aG)];exact k7,fun k hk=>?_⟩
 rw[List.length_set] at hk
 have HI:=yS (F:=M.G) (F':=M'.G) xt.G xt.sameG ty _ _ _ (fun _ _=>rfl) (k8 k hk)
 by_cases e2:k=i
 ·subst e2
  simp only[List.getElem_set_self]
  refine N4 ty vs rv.cells.toList xs[k] x off _ _ HI (by rw[←e1];exact hp) (dA.mono fun _ _ h=>h.ext xt) (fun j hj=>?_) (fun j hj rM=>?_)
  ·rw[jC (by simpa using aG),if_neg (by rw[k2];omega),if_pos (by rw[k2];simp at hj⊢;omega),k2]
   congr 1;omega
  ·rw[jC (by simpa using aG)]
   simp only[Array.length_toList] at hj⊢
   rw[k2]
   split
   ·rfl
   ·rw[if_neg (by omega)]
 ·rw[List.getElem_set_ne (Ne.symm e2)]
  refine yS (fun _ h=>h) (fun _ _=>rfl) ty _ _ _ (fun j hj=>?_) HI
  rw[jC (by simpa using aG)]
  simp only[Array.length_toList]
  rw[k2]
  rcases YD (Ne.symm e2) hj with h|h
  ·rw[if_pos (by omega)]
  ·rw[if_neg (by omega),if_neg (by omega)]
theorem vMi {P:Program}{M:zC}{w:World}(ok:Ok M)(hM:M.H=w.heap){t:TypeId}{id i j ver:Nat}{xs:List (List Int)}{n:Int}{R rl:Nat}{C:zT}
  (ah:M.h id=some (.mat ver xs)) (hC:M.κ id=some C) (hR:C.rows[i]? =some (some R,rl)) (hj:j<rl) (hn:1=P.cellsOf t):
  kC P (storeVar t ⟨R,j,none⟩ (.int .i64 n)) M w [(id,.mat ver (xs.set i ((xs.getD i []).set j n)))]:=by
 obtain⟨C',aC,hO⟩:=ok.obj id _ ah
 rw[hC] at aC;cases aC
 obtain⟨k1,k2,k3,k4,k5,k6⟩:=hO
 have hi:i<xs.length:=by
  rw[←k4]
  rcases Nat.lt_or_ge i C.rows.length with h|h
  ·exact h
  ·rw[List.getElem?_eq_none h] at hR;cases hR
 cases hB:C.blk with
 |none=>rw[hB] at k6;subst k6;simp at hi
 |some B=>
  rw[hB] at k6
  obtain⟨vals,e,k7,k8,k9⟩:=k6
  obtain⟨rb,v,q1,q2,q3,q4⟩:=k9 i hi
  rw[hR] at q1
  cases q1
  obtain⟨rv,er,q5,q6⟩:=q4 R rfl
  have hRB:R≠B:=N6 k5 hR hB
  have rM:j<rv.size:=by
   have:=q6 j hj
   rcases Nat.lt_or_ge j rv.size with h|h
   ·exact h
   ·rw[Array.getElem?_eq_none h] at this;cases this
  have e1:xs.getD i []=xs[i]:=by simp[List.getD,hi]
  refine N7 ok hM ah rfl hC (vCz hR) q5 (by rw[←hn];rfl) (by omega) (by show j+1≤rv.size;omega) (by intro u hu;simp[Value.cells] at hu;subst hu;rfl) fun M' _ _ hG x h1 h2=>?_
  refine⟨k1,by rw[List.length_set];exact k2,k3,by rw[List.length_set];exact k4,k5,?_⟩
  rw[hB]
  refine⟨vals,e,by rw[h2 B (Ne.symm hRB)];exact k7,by rw[List.length_set];exact k8,fun k hk=>?_⟩
  rw[List.length_set] at hk
  by_cases e2:k=i
  ·subst e2
   simp only[List.getElem_set_self,e1,List.length_set]
   refine⟨some R,v,hR,q2,q3.ext x,fun R' tT=>?_⟩
   cases tT
   refine⟨_,er,h1,fun m hm=>?_⟩
   rw[jC (by show j+1≤rv.size;omega)]
   show(if m<j then rv[m]? else if m<j+1 then[Value.int .i64 n][m-j]? else rv[m]?)=_
   by_cases e3:m=j
   ·subst e3
    rw[if_neg (by omega),if_pos (by omega)]
    simp
   ·rw[List.getElem_set_ne (Ne.symm e3)]
    have:=q6 m hm
    split
    ·exact this
    ·rw[if_neg (by omega)];exact this
  ·rw[List.getElem_set_ne (Ne.symm e2)]
   obtain⟨mI,v',p1,p2,p3,p4⟩:=k9 k hk
   refine⟨mI,v',p1,p2,p3.ext x,fun R' tT=>?_⟩
   subst tT
   obtain⟨pb,Dr,p5,p6⟩:=p4 R' rfl
   exact⟨pb,Dr,by rw[h2 R' (vLt k5 p1 hR e2)];exact p5,p6⟩
theorem HJ {x:Option Nat×Nat}:∀(l:List (Option Nat×Nat)) (i:Nat),(l.filterMap (·.1)).Nodup→(∀R,x.1=some R→R∉l.filterMap (·.1))→
  ((l.set i x).filterMap (·.1)).Nodup∧∀y∈(l.set i x).filterMap (·.1),y∈l.filterMap (·.1)∨x.1=some y
 |[],_,h,_=>⟨by simp,by simp⟩
 |a::l,0,h,hx=>by
  have hl:(l.filterMap (·.1)).Nodup:=by
   cases ha:a.1 with
   |none=>rwa [List.filterMap_cons_none ha] at h
   |some y=>rw[List.filterMap_cons_some ha] at h;exact(List.nodup_cons.1 h).2
  have bS:∀y∈l.filterMap (·.1),y∈(a::l).filterMap (·.1):=fun y hy=>by
   cases ha:a.1 with
   |none=>rwa [List.filterMap_cons_none ha]
   |some z=>rw[List.filterMap_cons_some ha];exact List.mem_cons_of_mem _ hy
  simp only[List.set_cons_zero]
  cases cw:x.1 with
  |none=>
   rw[List.filterMap_cons_none cw]
   exact⟨hl,fun y hy=>.inl (bS y hy)⟩
  |some R=>
   rw[List.filterMap_cons_some cw]
   refine⟨List.nodup_cons.2 ⟨fun hR=>hx R cw (bS R hR),hl⟩,fun y hy=>?_⟩
   rcases List.mem_cons.1 hy with rfl|hy
   ·exact .inr rfl
   ·exact .inl (bS y hy)
 |a::l,i+1,h,hx=>by
  simp only[List.set_cons_succ]
  cases ha:a.1 with
  |none=>
   rw[List.filterMap_cons_none ha] at h hx⊢
   rw[List.filterMap_cons_none ha]
   exact HJ l i h hx
  |some z=>
   rw[List.filterMap_cons_some ha] at h hx⊢
   rw[List.filterMap_cons_some ha]
   obtain⟨h1,h2⟩:=List.nodup_cons.1 h
   obtain⟨k1,k2⟩:=HJ l i h2 fun R hR hm=>hx R hR (List.mem_cons_of_mem _ hm)
   refine⟨List.nodup_cons.2 ⟨fun hz=>?_,k1⟩,fun y hy=>?_⟩
   ·rcases k2 z hz with hz|hz
    ·exact h1 hz
    ·exact hx z hz (List.mem_cons_self ..)
   ·rcases List.mem_cons.1 hy with rfl|hy
    ·exact .inl (List.mem_cons_self ..)
    ·rcases k2 y hy with hy|hy
     ·exact .inl (List.mem_cons_of_mem _ hy)
     ·exact .inr hy
def zC.absorb (M:zC)(id jd:Nat)(o:Obj)(C:zT)(H:Array Go.Obj):zC:={M with κ:=κset M.κ id C,h:=yM (yM M.h jd .gone) id o,H:=H}
theorem zC.absorb_ok {M:zC}(ok:Ok M){id jd:Nat}{o oj o':Obj}{C Cj C':zT}{H':Array Go.Obj}(bn:id≠jd)(ah:M.h id=some o)(aM:o.owned=true)(hC:M.κ id=some C)
    (cI:M.h jd=some oj) (rO:oj.owned=true) (dm:M.κ jd=some Cj) (hle:C.le C') (kB:∀b∈C'.fp,b∈C.fp∨b∈Cj.fp) (dV:H'.size=M.H.size)
    (hH:∀b,b∉C.fp→H'[b]? =M.H[b]?) (cH:∀b,b<M.H.size→qZ H' b=qZ M.H b)
    (hO:yW M (M.absorb id jd o' C' H')→yU (M.absorb id jd o' C' H') o' C'):Ok (M.absorb id jd o' C' H')∧yY M (M.absorb id jd o' C' H'):=by
  have rK:∀b,M.F b→b∉C.fp:=fun b hF hb=>(ok.own b ⟨id,o,C,ah,aM,hC,hb⟩).1 hF
  have x:yW M (M.absorb id jd o' C' H'):=
    { κ:=fun n D h=>by
        by_cases e:n=id
        · subst e
          rw[hC] at h
          cases h
          exact⟨C',κset_same _ _ _,hle⟩
        · exact⟨D,by simp only[zC.absorb];rw[κset_ne _ _ e];exact h,D.le_refl⟩
      F:=fun _ h=>h
      G:=fun _ h=>h
      same:=fun b h=>hH b (rK b h)
      sameG:=fun b h=>hH b (rK b (ok.GF b h))
      bsz:=cH}
  have bJ:∀b∈C'.fp,qU M b:=fun b hb=>by
    rcases kB b hb with hb|hb
    · exact⟨id,o,C,ah,aM,hC,hb⟩
    · exact⟨jd,oj,Cj,cI,rO,dm,hb⟩
  have dE:∀n q,n≠id→(M.absorb id jd o' C' H').h n=some q→q.owned=true→n≠jd∧M.h n=some q:=by
    intro n q e h1 h2
    simp only[zC.absorb] at h1
    rw[yZ _ _ e] at h1
    by_cases e':n=jd
    · subst e'
      rw[yQ] at h1
      cases h1
      cases h2
    · rw[yZ _ _ e'] at h1
      exact⟨e',h1⟩
  have gv:∀b,qU (M.absorb id jd o' C' H') b→qU M b:=by
    rintro b ⟨n,q,D,h1,h2,h3,h4⟩
    by_cases e:n=id
    · subst e
      simp only[zC.absorb,κset_same,Option.some.injEq] at h3
      subst h3
      exact bJ b h4
    · obtain⟨e',cP⟩:=dE n q e h1 h2
      simp only[zC.absorb] at h3
      rw[κset_ne _ _ e] at h3
      exact⟨n,q,D,cP,h2,h3,h4⟩
  refine⟨ok.build x (fun n=>n=id∨n=jd) (fun n hn=>?_) (fun n hn=>κset_ne _ _ fun e=>hn (.inl e)) ?_ ?_ (by simp only[zC.absorb];omega) ?_ ?_ ?_ ok.GF ?_,x,by simp only[zC.absorb];omega,?_,fun b hb _=>gv b hb,fun b h _=>.inl h,fun b h _=>.inl h⟩
  · simp only[zC.absorb]
    rw[yZ _ _ fun e=>hn (.inl e),yZ _ _ fun e=>hn (.inr e)]
  · intro n q D hn h1 h2 h3 b hb
    exact hH b fun hc=>ok.disj n id q o D C b (fun e=>hn (.inl e)) h1 ah h2 aM h3 hC hb hc
  · intro n q D hn h1 h2 h3 b hb
    exact(ok.own b ⟨n,q,D,h1,h2,h3,hb⟩).1
  · rintro n q (rfl|rfl) h1
    · simp only[zC.absorb,yQ,Option.some.injEq] at h1
      subst h1
      exact⟨C',κset_same _ _ _,hO x⟩
    · simp only[zC.absorb] at h1
      rw[yZ _ _ (Ne.symm bn),yQ] at h1
      cases h1
      exact⟨Cj,by simp only[zC.absorb];rw[κset_ne _ _ (Ne.symm bn)];exact dm,trivial⟩
  · rintro n (rfl|rfl) h1
    · simp only[zC.absorb,yQ] at h1
      cases h1
    · simp only[zC.absorb] at h1
      rw[yZ _ _ (Ne.symm bn),yQ] at h1
      cases h1
  · rintro n q D b (rfl|rfl) h1 h2 h3 hb
    · simp only[zC.absorb,κset_same,Option.some.injEq] at h3
      subst h3
      have hbo:=ok.own b (bJ b hb)
      refine⟨fun j qj Dj hj k1 k2 k3 k4=>?_,hbo.1,by simp only[zC.absorb];omega⟩
      obtain⟨N8,xU⟩:=dE j qj hj k1 k2
      simp only[zC.absorb] at k3
      rw[κset_ne _ _ hj] at k3
      rcases kB b hb with hb|hb
      · exact ok.disj j n qj o Dj C b hj xU ah k2 aM k3 hC k4 hb
      · exact ok.disj j jd qj oj Dj Cj b N8 xU cI k2 rO k3 dm k4 hb
    · simp only[zC.absorb] at h1
      rw[yZ _ _ (Ne.symm bn),yQ] at h1
      cases h1
      cases h2
  · intro b hb
    have:=ok.Flt b hb
    simp only[zC.absorb];omega
  · intro b hb hn
    exact hH b fun hc=>hn ⟨id,o,C,ah,aM,hC,hc⟩
theorem Ds {M:zC}{t:Ty}{xs:List t.den}{C:zT}(h:yU M (.arr true t xs) C):C.rows=[]∧C.fp=C.blk.toList:=by
 have:=h.2.2.1 rfl
 exact⟨this,by simp[zT.fp,this]⟩
theorem N9 {M:zC}{ys:List Int}{C:zT}{jd:Nat}{v:Value}(hC:M.κ jd=some C)(hO:yU M (.arr true (.int .i64) ys) C)(hv:zZ M (.osl jd none) v):
  kA M.H C.blk ys.length v∧∀R,C.blk=some R→∃rv er,M.H[R]? =some (.cells rv er (0,0))∧∀j (h':j<ys.length),rv[j]? =some (.int .i64 ys[j]):=by
 obtain⟨h1,h2,h3,h4⟩:=hO
 obtain⟨C',aC,A,c,rfl,h⟩:=hv
 rw[hC] at aC;cases aC
 cases hB:C.blk with
 |none=>
  rw[hB] at h
  obtain⟨rfl,e,rfl⟩:=h
  exact⟨⟨by rw[e],by omega⟩,fun R hR=>by cases hR⟩
 |some B=>
  rw[hB] at h h4
  obtain⟨hc,a,rfl,ha,hs⟩:=h
  obtain⟨vals,e,h5,h6,h7,h8⟩:=h4
  refine⟨⟨a,c,by rw[h1],by omega,by simpa using ha,by simpa[h2,Ty.size] using hs⟩,fun R hR=>?_⟩
  cases hR
  refine⟨vals,e,h5,fun j hj=>?_⟩
  have:=h8 j hj
  simpa[qF,Ty.size] using this
theorem vSz {P:Program}{M:zC}{w:World}(ok:Ok M)(hM:M.H=w.heap){t:TypeId}{id jd i ver:Nat}{xs:List (List Int)}{ys:List Int}{B:Nat}{C:zT}{rv:Value}
  (ah:M.h id=some (.mat ver xs)) (hC:M.κ id=some C) (hB:C.blk=some B) (hi:i<C.len) (cI:M.h jd=some (.arr true (.int .i64) ys)) (hv:zZ M (.osl jd none) rv) (hn:1=P.cellsOf t):
  kC P (storeVar t ⟨B,i,none⟩ rv) M w [(jd,.gone),(id,.mat (ver+1) (xs.set i ys))]:=by
 obtain⟨C',aC,hO⟩:=ok.obj id _ ah
 rw[hC] at aC;cases aC
 obtain⟨Cj,dm,lq⟩:=ok.obj jd _ cI
 obtain⟨jr,jf⟩:=Ds lq
 have bn:id≠jd:=fun e=>by rw[e,cI] at ah;cases ah
 obtain⟨r1,r2⟩:=N9 dm lq hv
 obtain⟨k1,k2,k3,k4,k5,k6⟩:=hO
 rw[hB] at k6
 obtain⟨vals,e,k7,k8,k9⟩:=k6
 have bJ:w.heap[B]? =some (.cells vals e (0,0)):=by rw[←hM];exact k7
 have cQ:=hv.one
 have aF:rv.cells=#[rv]:=by cases rv<;>first|rfl|cases cQ
 have aG:i+rv.cells.size≤vals.size:=by rw[aF];show i+1≤vals.size;omega
 have dF:i+rv.cells.toList.length≤vals.size:=by rw[Array.length_toList];exact aG
 have hr:=NY (P:=P) (t:=t) (off:=i) (rv:=rv) bJ (by rw[aF];exact hn) (by omega) aG (by intro u hu;rw[aF] at hu;simp at hu;subst hu;exact cQ)
 obtain⟨f1,f2,f3,f4⟩:=ma bJ (new:=yO vals i rv.cells.toList) (fG dF)
 have ee:∀R,Cj.blk=some R→R∉C.fp:=fun R hR hm=>ok.disj id jd _ _ C Cj R bn ah cI rfl rfl hC dm hm (jV hR)
 have dB:=List.nodup_append.1 k5
 obtain⟨s1,s2⟩:=HJ (x:=(Cj.blk,ys.length)) C.rows i dB.2.1 (fun R hR hm=>ee R hR (by simp only[zT.fp,List.mem_append];exact .inr hm))
 let D:zT:={C with ver:=ver+1,rows:=C.rows.set i (Cj.blk,ys.length)}
 have tU:∀b∈D.fp,b∈C.fp∨b∈Cj.fp:=fun b hb=>by
  simp only[zT.fp,List.mem_append] at hb
  rcases hb with hb|hb
  ·exact .inl (by simp only[zT.fp,List.mem_append];exact .inl hb)
  ·rcases s2 b hb with hb|hb
   ·exact .inl (by simp only[zT.fp,List.mem_append];exact .inr hb)
   ·exact .inr (jV hb)
 have tV:D.fp.Nodup:=by
  refine List.nodup_append.2 ⟨dB.1,s1,fun a ha b hb e=>?_⟩
  subst e
  rcases s2 a hb with hb|hb
  ·exact dB.2.2 a ha a hb rfl
  ·exact ee a hb (by simp only[zT.fp,List.mem_append];exact .inl ha)
 have dj:i<xs.length:=by omega
 have:=zC.absorb_ok (H':=(w.setRow B (yO vals i rv.cells.toList)).heap) (o':=.mat (ver+1) (xs.set i ys)) (C':=D) ok bn ah rfl hC cI rfl dm ⟨rfl,rfl,rfl,by show C.ver≤ver+1;omega,fun e=>by have:ver+1=C.ver:=e;omega⟩ tU
  (by rw [hM]; exact f1) (fun b mH => by rw [hM]; exact f3 b fun e => mH (e ▸ jV hB)) (fun b _ => by rw [hM]; exact f4 b) (fun x=>by
   refine⟨rfl,by rw[List.length_set];exact k2,k3,by simp only[D,List.length_set];exact k4,tV,?_⟩
   have Oa:D.blk=some B:=hB
   rw[Oa]
   refine⟨_,e,f2,by rw[List.length_set,fG dF];exact k8,fun k hk=>?_⟩
   rw[List.length_set] at hk
   by_cases e2:k=i
   ·subst e2
    simp only[List.getElem_set_self]
    refine⟨Cj.blk,rv,?_,?_,r1.ext x,fun R hR=>?_⟩
    ·simp only[D];rw[List.getElem?_set_self (by omega)]
    ·rw[jC dF,if_neg (by omega),if_pos (by rw[aF];show k<k+1;omega),aF]
     simp
    ·obtain⟨pb,er,q5,q6⟩:=r2 R hR
     refine⟨pb,er,?_,q6⟩
     have:R≠B:=fun e=>ee R hR (e▸jV hB)
     show(w.setRow B _).heap[R]? =_
     rw[f3 R this,←hM];exact q5
   ·rw[List.getElem_set_ne (Ne.symm e2)]
    obtain⟨mI,v',p1,p2,p3,p4⟩:=k9 k hk
    refine⟨mI,v',?_,?_,p3.ext x,fun R' tT=>?_⟩
    ·simp only[D];rw[List.getElem?_set_ne (Ne.symm e2)];exact p1
    ·rw[jC dF,aF]
     show(if k<i then vals[k]? else if k<i+1 then _ else vals[k]?)=_
     split
     ·exact p2
     ·rw[if_neg (by omega)];exact p2
    ·subst tT
     obtain⟨pb,Dr,p5,p6⟩:=p4 R' rfl
     refine⟨pb,Dr,?_,p6⟩
     have:R'≠B:=N6 k5 p1 hB
     show(w.setRow B _).heap[R']? =_
     rw[f3 R' this,←hM];exact p5)
 exact⟨_,_,hr,rfl,rfl,rfl,rfl,rfl,this.1,this.2⟩
theorem vJ9 {P:Program}{M:zC}{w:World}(ok:Ok M)(hM:M.H=w.heap){t:TypeId}{id jd ver n:Nat}{xs:List (List Int)}{ys:List Int}{B:Nat}{C:zT}{rv:Value}
  (ah:M.h id=some (.pmat ver xs n)) (hC:M.κ id=some C) (hB:C.blk=some B) (hi:xs.length<C.len) (cI:M.h jd=some (.arr true (.int .i64) ys)) (hv:zZ M (.osl jd none) rv) (hn:1=P.cellsOf t):
  kC P (storeVar t ⟨B,xs.length,none⟩ rv) M w [(jd,.gone),(id,.pmat (ver+1) (xs++[ys]) n)]:=by
 obtain⟨C',aC,hO⟩:=ok.obj id _ ah
 rw[hC] at aC;cases aC
 obtain⟨Cj,dm,lq⟩:=ok.obj jd _ cI
 obtain⟨jr,jf⟩:=Ds lq
 have bn:id≠jd:=fun e=>by rw[e,cI] at ah;cases ah
 obtain⟨r1,r2⟩:=N9 dm lq hv
 obtain⟨k1,k2,k3,k4,k5,k0,k6⟩:=hO
 rw[hB] at k6
 obtain⟨vals,e,k7,k8,k9⟩:=k6
 have bJ:w.heap[B]? =some (.cells vals e (0,0)):=by rw[←hM];exact k7
 have cQ:=hv.one
 have aF:rv.cells=#[rv]:=by cases rv<;>first|rfl|cases cQ
 have aG:xs.length+rv.cells.size≤vals.size:=by rw[aF];show xs.length+1≤vals.size;omega
 have dF:xs.length+rv.cells.toList.length≤vals.size:=by rw[Array.length_toList];exact aG
 have hr:=NY (P:=P) (t:=t) (off:=xs.length) (rv:=rv) bJ (by rw[aF];exact hn) (by omega) aG (by intro u hu;rw[aF] at hu;simp at hu;subst hu;exact cQ)
 obtain⟨f1,f2,f3,f4⟩:=ma bJ (new:=yO vals xs.length rv.cells.toList) (fG dF)
 have ee:∀R,Cj.blk=some R→R∉C.fp:=fun R hR hm=>ok.disj id jd _ _ C Cj R bn ah cI rfl rfl hC dm hm (jV hR)
 have dB:=List.nodup_append.1 k5
 have Dt:(C.rows++[(Cj.blk,ys.length)]).filterMap (·.1)=C.rows.filterMap (·.1)++Cj.blk.toList:=by
  rw[List.filterMap_append]
  cases Cj.blk<;>simp
 have s1:((C.rows++[(Cj.blk,ys.length)]).filterMap (·.1)).Nodup:=by
  rw[Dt]
  refine List.nodup_append.2 ⟨dB.2.1,by cases Cj.blk<;>simp,fun x hx y hy e=>?_⟩
  subst e
  have:Cj.blk=some x:=by simpa using hy
  exact ee x this (by simp only[zT.fp,List.mem_append];exact .inr hx)
 have s2:∀y∈(C.rows++[(Cj.blk,ys.length)]).filterMap (·.1),y∈C.rows.filterMap (·.1)∨Cj.blk=some y:=fun y hy=>by
  rw[Dt] at hy
  rcases List.mem_append.1 hy with h|h
  ·exact .inl h
  ·exact .inr (by simpa using h)
 let D:zT:={C with ver:=ver+1,rows:=C.rows++[(Cj.blk,ys.length)]}
 have tU:∀b∈D.fp,b∈C.fp∨b∈Cj.fp:=fun b hb=>by
  simp only[zT.fp,List.mem_append] at hb
  rcases hb with hb|hb
  ·exact .inl (by simp only[zT.fp,List.mem_append];exact .inl hb)
  ·rcases s2 b hb with hb|hb
   ·exact .inl (by simp only[zT.fp,List.mem_append];exact .inr hb)
   ·exact .inr (jV hb)
 have tV:D.fp.Nodup:=by
  refine List.nodup_append.2 ⟨dB.1,s1,fun a ha b hb e=>?_⟩
  subst e
  rcases s2 a hb with hb|hb
  ·exact dB.2.2 a ha a hb rfl
  ·exact ee a hb (by simp only[zT.fp,List.mem_append];exact .inl ha)
 have:=zC.absorb_ok (H':=(w.setRow B (yO vals xs.length rv.cells.toList)).heap) (o':=.pmat (ver+1) (xs++[ys]) n) (C':=D) ok bn ah rfl hC cI rfl dm ⟨rfl,rfl,rfl,by show C.ver≤ver+1;omega,fun e=>by have:ver+1=C.ver:=e;omega⟩ tU
  (by rw [hM]; exact f1) (fun b mH => by rw [hM]; exact f3 b fun e => mH (e ▸ jV hB)) (fun b _ => by rw [hM]; exact f4 b) (fun x=>by
   refine⟨rfl,k2,k3,by simp only[D,List.length_append,k4];rfl,tV,by simp;omega,?_⟩
   have Oa:D.blk=some B:=hB
   rw[Oa]
   refine⟨_,e,f2,by rw[fG dF];exact k8,fun k hk=>?_⟩
   rw[List.length_append,List.length_singleton] at hk
   by_cases e2:k=xs.length
   ·subst e2
    simp only[List.getElem_concat_length]
    refine⟨Cj.blk,rv,?_,?_,r1.ext x,fun R hR=>?_⟩
    ·simp only[D];rw[List.getElem?_append_right (by omega),k4];simp
    ·rw[jC dF,if_neg (by omega),if_pos (by rw[aF];show xs.length<xs.length+1;omega),aF]
     simp
    ·obtain⟨pb,er,q5,q6⟩:=r2 R hR
     refine⟨pb,er,?_,q6⟩
     have:R≠B:=fun e=>ee R hR (e▸jV hB)
     show(w.setRow B _).heap[R]? =_
     rw[f3 R this,←hM];exact q5
   ·have Du:k<xs.length:=by omega
    rw[List.getElem_append_left Du]
    obtain⟨mI,v',p1,p2,p3,p4⟩:=k9 k Du
    refine⟨mI,v',?_,?_,p3.ext x,fun R' tT=>?_⟩
    ·simp only[D];rw[List.getElem?_append_left (by omega)];exact p1
    ·rw[jC dF,aF]
     show(if k<xs.length then vals[k]? else if k<xs.length+1 then _ else vals[k]?)=_
     rw[if_pos Du]
     exact p2
    ·subst tT
     obtain⟨pb,Dr,p5,p6⟩:=p4 R' rfl
     refine⟨pb,Dr,?_,p6⟩
     have:R'≠B:=N6 k5 p1 hB
     show(w.setRow B _).heap[R']? =_
     rw[f3 R' this,←hM];exact p5)
 exact⟨_,_,hr,rfl,rfl,rfl,rfl,rfl,this.1,this.2⟩
theorem HK (h:Hp){n:Nat}:∀{u:qH},(u.any fun p=>Nat.beq p.1 n)=false→qP h u n=h n
 |[],_=>rfl
 |(id,o)::u,hu=>by
  simp only[List.any_cons,Bool.or_eq_false_iff] at hu
  have:n≠id:=fun e=>by subst e;simp at hu
  show qP (yM h id o) u n=h n
  rw[HK (yM h id o) hu.2,yZ _ _ this]
theorem vK3 {P:Program}{M:zC}{w:World}(ok:Ok M)(hM:M.H=w.heap){t:TypeId}{a v r:zI}{u:qH}{ra rv:Value}(ha:qA M a ra)(hv:qA M v rv)
  (h:yN (xz P M.h t a v) r u):r=.undef∧kC P (Instr.storeAt t ra rv) M w u:=by
 unfold xz at h
 split at h
 ·exact h.elim
 ·rename_i vs dA
  have dp:=HF dA hv
  cases hb:(Nat.beq vs.length (P.cellsOf t)&&Nat.blt 0 vs.length) with
  |false=>rw[hb] at h;exact h.elim
  |true=>
   rw[hb] at h
   simp only[cond_true] at h
   simp only[Bool.and_eq_true] at hb
   have hn:=Nat.eq_of_beq_eq_true hb.1
   have h0:=HH hb.2
   split at h
   ·rename_i id off
    split at h
    ·rename_i cells ah
     split at h
     ·rename_i bO hp
      obtain⟨_,rfl,rfl⟩:=fE h
      obtain⟨C,B,hC,hB,rfl⟩:=ha
      refine⟨rfl,?_⟩
      have:=vCa (P:=P) ok hM (t:=t) ah hC hB dp hn h0 hp
      simpa[Instr.storeAt,kC,iz] using this
     ·exact h.elim
    ·exact h.elim
   ·rename_i id i off
    split at h
    ·rename_i ty xs Ob u' ah tW
     split at h
     ·rename_i x hp
      cases hu:(u'.any fun p=>Nat.beq p.1 id) with
      |true=>rw[hu] at h;exact h.elim
      |false=>
      rw[hu] at h
      obtain⟨_,rfl,rfl⟩:=fE h
      refine⟨rfl,?_⟩
      obtain⟨M1,a1,a2,a3,a4,a5,a6,a7⟩:=N2 ok (wN.refl _) dp tW
      obtain⟨C,B,hC,hB,hi,hra⟩:=zZ.ext (c:=.eptr id i off) a4.ext ha
      have mJ:M1.h id=some (.arr true ty xs):=by rw[a2,HK M.h hu];exact ah
      have pc:=a5.length
      have lr:=dp.length
      obtain⟨w',M',b1,b2,b3,b4,b5,b6,b7,b8⟩:=vOz (P:=P) a3 (a1.trans hM) (t:=t) mJ hC hB hi a5 (by omega) (by omega) hp
      subst hra
      exact⟨w',M',by simpa[Instr.storeAt,iz] using b1,b2,b3,b4,b5,by rw[b6,a2,jt],b7,a4.trans b8⟩
     ·exact h.elim
    ·exact h.elim
   ·rename_i id i
    split at h
    ·rename_i ver xs jd ah
     split at h
     ·rename_i ys cI
      obtain⟨_,rfl,rfl⟩:=fE h
      obtain⟨C,B,hC,hB,hi,rfl⟩:=ha
      refine⟨rfl,?_⟩
      have:=vSz (P:=P) ok hM (t:=t) ah hC hB hi cI hv (by cases dA;exact hn)
      simpa[Instr.storeAt,kC,iz] using this
     ·exact h.elim
    ·rename_i ver xs n jd ah
     split at h
     ·rename_i ys cI
      obtain⟨Dq,rfl,rfl⟩:=fE h
      obtain⟨C,B,hC,hB,hi,rfl⟩:=ha
      have Dq:=Nat.eq_of_beq_eq_true Dq
      subst Dq
      refine⟨rfl,?_⟩
      have:=vJ9 (P:=P) ok hM (t:=t) ah hC hB hi cI hv (by cases dA;exact hn)
      simpa[Instr.storeAt,kC,iz] using this
     ·exact h.elim
    ·exact h.elim
   ·rename_i id i j ver
    split at h
    ·rename_i v' xs n ah
     cases gy:Nat.beq v' ver with
     |false=>rw[gy] at h;exact h.elim
     |true=>
     rw[gy] at h
     have e:=Nat.eq_of_beq_eq_true gy
     subst e
     obtain⟨_,rfl,rfl⟩:=fE h
     obtain⟨C,hC,h1,hle,hm⟩:=ha
     obtain⟨C',aC,hO⟩:=ok.obj _ _ ah
     rw[hC] at aC;cases aC
     obtain⟨R,rl,k1,k2,rfl⟩:=hm hO.1
     refine⟨rfl,?_⟩
     have mK:rv=.int .i64 n:=hv
     subst mK
     have:=vMi (P:=P) ok hM (t:=t) (n:=n) ah hC k1 k2 (by cases dA;exact hn)
     simpa[Instr.storeAt,kC,iz] using this
    ·exact h.elim
   ·exact h.elim
theorem fm {c:Bool}{s:yJ}{v:zI}{u:qH}(h:yN (bif c then s else .stuck) v u):c=true∧yN s v u:=by
 cases c with
 |true=>exact⟨rfl,h⟩
 |false=>exact h.elim
theorem HL {c:Bool}{s:yJ}{v:zI}{u:qH}(h:yN (bif c then .stuck else s) v u):c=false∧yN s v u:=by
 cases c with
 |false=>exact⟨rfl,h⟩
 |true=>exact h.elim
theorem HM {a b:Nat}(h:Nat.beq a b=false):a≠b:=fun e=>by subst e;simp at h
theorem xV {i:Int}{n:Nat}(h:zE i n=true):0≤i∧i<n∧i.toNat<n:=by
 simp only[zE,Bool.and_eq_true,decide_eq_true_eq] at h
 omega
theorem Dv {i:Int}{mk:Nat→zL}:∀{n j:Nat} {v:zI} {u:qH},Hz (xx i mk j n) v u→∃k,j≤k∧k<j+n∧i=(k:Int)∧v=.c (mk k)∧u=[]
 |0,_,_,_,h=>h.elim
 |n+1,j,v,u,h=>by
  rcases h with⟨h1,h2,h3⟩|⟨_,h⟩
  ·exact⟨j,Nat.le_refl _,by omega,of_decide_eq_true h1,h2,h3⟩
  ·obtain⟨k,k1,k2,k3⟩:=Dv h
   exact⟨k,by omega,by omega,k3⟩
theorem vNy {P:Program}{M:zC}{w:World}(ok:Ok M)(hM:M.H=w.heap){s:TypeId}{a v:zI}{f:Nat}{u:qH}{ra:Value}(ha:qA M a ra)
  (h:yN (Nw P s a f) v u):qQ P (Instr.fieldAt s ra f) M w v u:=by
 unfold Nw at h
 split at h
 ·rename_i fs hs
  split at h
  ·rename_i fd hf
   obtain⟨hz,h⟩:=HL h
   have hz:=HM hz
   obtain⟨i,hi⟩:=lZ (P:=P) (t:=fd.type) (by omega)
   have hr:∀B o,(Instr.fieldAt s (.pointer (some ⟨B,o,none⟩)) f).run P w=.ok (.pointer (some ⟨B,o+fd.offset,none⟩)) w:=by
    intro B o
    simp[Instr.fieldAt,run_underlying hs,hf,iz,fieldPlace,gw w hi,hz,Addr.add_lit]
   split at h
   ·obtain⟨rfl,rfl⟩:=wF h
    obtain⟨C,B,hC,hB,rfl⟩:=ha
    exact qQ.pure ok hM (hr _ _) ⟨C,B,hC,hB,rfl⟩
   ·obtain⟨rfl,rfl⟩:=wF h
    obtain⟨C,B,hC,hB,hi,rfl⟩:=ha
    exact qQ.pure ok hM (hr _ _) ⟨C,B,hC,hB,hi,by rw[Nat.add_assoc]⟩
   ·obtain⟨rfl,rfl⟩:=wF h
    obtain⟨B,o,rfl,hB,hE⟩:=ha
    exact qQ.pure ok hM (hr _ _) ⟨B,o,by rw[Nat.add_assoc],hB,hE⟩
   ·exact h.elim
  ·exact h.elim
 ·exact h.elim
theorem Dw {P:Program}{w:World}{t e:TypeId}{A:Option Addr}{n c:Nat}{k:IntKind}{i:Int}{B o:Nat}(hu:P.underlying t=some (.slice e))(h0:0≤i)(h1:i<n)(he:0<P.cellsOf e)
  (hA:A=some ⟨B,o,none⟩):(Instr.indexAt t (.slice A n c) (.int k i)).run P w=.ok (.pointer (some ⟨B,o+i.toNat*P.cellsOf e,none⟩)) w:=by
 obtain⟨x,hx⟩:=lZ he
 subst hA
 simp[Instr.indexAt,asIntOf,run_underlying hu,h0,h1,gw w hx,Addr.add_lit]
theorem vOc {P:Program}{M:zC}{w:World}(ok:Ok M)(hM:M.H=w.heap){t:TypeId}{x i v:zI}{u:qH}{rx ri:Value}(hx:qA M x rx)(hi:qA M i ri)
  (h:yN (xA P M.h t x i) v u):qQ P (Instr.indexAt t rx ri) M w v u:=by
 unfold xA at h
 split at h
 ·rename_i e c k n hu
  have lu:ri=.int k n:=hi
  subst lu
  split at h
  ·rename_i sh ty xs
   obtain⟨hz,h⟩:=fm h
   have hz:=Nat.eq_of_beq_eq_true hz
   obtain⟨hb,rfl,rfl⟩:=lj h
   obtain⟨b0,b1,b2⟩:=xV hb
   have mL:qF M.H (bif sh then M.G else M.F) (.sl ty) xs (fun _=>some rx):=hx
   simp only[qF,Option.some.injEq] at mL
   obtain⟨A,m,c,rfl,rfl,hc,mL⟩:=mL
   rcases mL with⟨rfl,_⟩|⟨B,o,rfl,hB,hE⟩
   ·simp at b2
   ·refine qQ.pure ok hM (Dw hu b0 b1 (by rw[hz];exact ty.size_pos) rfl) ⟨B,o+n.toNat*P.cellsOf e,rfl,hB,?_⟩
    have e1:xs.getD n.toNat ty.dflt=xs[n.toNat]:=by simp[List.getD,b2]
    rw[e1,hz]
    exact hE _ b2
  ·rename_i id r
   split at h
   ·rename_i own ty xs ah
    obtain⟨hz,h⟩:=fm h
    have hz:=Nat.eq_of_beq_eq_true hz
    obtain⟨C,hC,hS⟩:=hx
    obtain⟨C',aC,hO⟩:=ok.obj _ _ ah
    rw[hC] at aC;cases aC
    have hlen:=hO.1
    have dV:=hO.2.1
    have key:∀lo m,lo+m≤C.len→wK M.H C lo m rx→0≤n→n<(m:Int)→∃B,C.blk=some B∧(Instr.indexAt t rx (.int k n)).run P w=.ok (.pointer (some ⟨B,(lo+n.toNat)*C.sz+0,none⟩)) w:=by
     intro lo m hm lv n0 n1
     clear hS
     obtain⟨A,c,rfl,hS⟩:=lv
     cases hB:C.blk with
     |none=>rw[hB] at hS;obtain⟨_,rfl,_⟩:=hS;omega
     |some B=>
      rw[hB] at hS
      obtain⟨hc,a,hA,ha,_⟩:=hS
      refine⟨B,rfl,?_⟩
      rw[Dw hu n0 n1 (by rw[hz];exact ty.size_pos) hA]
      have:a=lo*C.sz:=by rcases ha with ha|ha<;>omega
      rw[this,hz,dV,Nat.add_mul];rfl
    split at h
    ·obtain⟨hb,rfl,rfl⟩:=lj h
     obtain⟨b0,b1,b2⟩:=xV hb
     obtain⟨B,hB,hr⟩:=key 0 C.len (by omega) hS b0 (by omega)
     rw[Nat.zero_add] at hr
     exact qQ.pure ok hM hr ⟨C,B,hC,hB,by omega,rfl⟩
    ·obtain⟨hb,rfl,rfl⟩:=lj h
     obtain⟨b0,b1,b2⟩:=xV hb
     obtain⟨B,hB,hr⟩:=key _ _ hS.1 hS.2.1 b0 b1
     exact qQ.pure ok hM hr ⟨C,B,hC,hB,by have:=hS.1;omega,rfl⟩
   ·rename_i ver xs ah
    obtain⟨hz,h⟩:=fm h
    have hz:=Nat.eq_of_beq_eq_true hz
    split at h
    ·obtain⟨hb,rfl,rfl⟩:=lj h
     obtain⟨b0,b1,b2⟩:=xV hb
     obtain⟨C,hC,hS⟩:=hx
     obtain⟨C',aC,hO⟩:=ok.obj _ _ ah
     rw[hC] at aC;cases aC
     have hlen:=hO.2.1
     obtain⟨A,c,rfl,hS⟩:=hS
     cases hB:C.blk with
     |none=>rw[hB] at hS;obtain⟨_,h0,_⟩:=hS;omega
     |some B=>
      rw[hB] at hS
      obtain⟨hc,a,hA,ha,_⟩:=hS
      have:a=0:=by rcases ha with ha|ha<;>omega
      have hr:=Dw (P:=P) (w:=w) (c:=c) (k:=k) hu b0 (show n<(C.len:Int) by omega) (by omega) hA
      rw[this,hz,Nat.zero_add,Nat.mul_one] at hr
      exact qQ.pure ok hM hr ⟨C,B,hC,hB,by omega,rfl⟩
    ·exact h.elim
   ·rename_i ver xs m ah
    obtain⟨hz,h⟩:=fm h
    have hz:=Nat.eq_of_beq_eq_true hz
    split at h
    ·obtain⟨hb,rfl,rfl⟩:=lj h
     obtain⟨b0,b1,b2⟩:=xV hb
     obtain⟨C,hC,hS⟩:=hx
     obtain⟨C',aC,hO⟩:=ok.obj _ _ ah
     rw[hC] at aC;cases aC
     have hlen:=hO.2.1
     obtain⟨A,c,rfl,hS⟩:=hS
     cases hB:C.blk with
     |none=>rw[hB] at hS;obtain⟨_,h0,_⟩:=hS;omega
     |some B=>
      rw[hB] at hS
      obtain⟨hc,a,hA,ha,_⟩:=hS
      have:a=0:=by rcases ha with ha|ha<;>omega
      have hr:=Dw (P:=P) (w:=w) (c:=c) (k:=k) hu b0 (show n<(C.len:Int) by omega) (by omega) hA
      rw[this,hz,Nat.zero_add,Nat.mul_one] at hr
      exact qQ.pure ok hM hr ⟨C,B,hC,hB,by omega,rfl⟩
    ·exact h.elim
   ·exact h.elim
  ·rename_i id j ver
   obtain⟨hz,h⟩:=fm h
   have hz:=Nat.eq_of_beq_eq_true hz
   split at h
   ·rename_i v' xs ah
    obtain⟨hv,h⟩:=fm h
    have hv:=Nat.eq_of_beq_eq_true hv
    subst hv
    obtain⟨hb,rfl,rfl⟩:=lj h
    obtain⟨b0,b1,b2⟩:=xV hb
    obtain⟨C,hC,h1,hle,hm⟩:=hx
    obtain⟨C',aC,hO⟩:=ok.obj _ _ ah
    rw[hC] at aC;cases aC
    obtain⟨rb,rl,k1,k2⟩:=hm hO.1
    have hj:j<xs.length:=by
     rw[←hO.2.2.2.1]
     rcases Nat.lt_or_ge j C.rows.length with h|h
     ·exact h
     ·rw[List.getElem?_eq_none h] at k1;cases k1
    obtain⟨B,mI,x',q0,qv,q1,q2,q3,q4⟩:=xS hO hj
    rw[k1] at q1
    cases q1
    have e1:xs.getD j []=xs[j]:=by simp[List.getD,hj]
    rw[e1] at b1 b2
    cases rb with
    |none=>obtain⟨_,h0⟩:=k2;omega
    |some R=>
     obtain⟨a,c,rfl,hc,ha,_⟩:=k2
     have:a=0:=by rcases ha with ha|ha<;>omega
     subst this
     have hr:=Dw (P:=P) (w:=w) (c:=c) (k:=k) (A:=some ⟨R,0,none⟩) hu b0 b1 (by omega) rfl
     rw[hz,Nat.zero_add,Nat.mul_one] at hr
     exact qQ.pure ok hM hr ⟨C,hC,rfl,hle,fun _=>⟨R,_,k1,b2,rfl⟩⟩
   ·exact h.elim
  ·exact h.elim
 ·rename_i m e id off k n hu
  have lu:ri=.int k n:=hi
  subst lu
  obtain⟨hz,h⟩:=HL h
  have hz:=HM hz
  obtain⟨j,j1,j2,rfl,rfl,rfl⟩:=Dv h
  obtain⟨C,B,hC,hB,rfl⟩:=hx
  obtain⟨y,hy⟩:=lZ (P:=P) (t:=e) (by omega)
  refine qQ.pure ok hM (rv:=.pointer (some ⟨B,off+j*P.cellsOf e,none⟩)) ?_ ⟨C,B,hC,hB,rfl⟩
  have:(j:Int)<m:=by omega
  have h':¬m≤j:=by omega
  simp[Instr.indexAt,asIntOf,run_underlying hu,iz,this,h',gw w hy,Addr.add_lit]
 ·rename_i m e id q off k n hu
  have lu:ri=.int k n:=hi
  subst lu
  obtain⟨hz,h⟩:=HL h
  have hz:=HM hz
  obtain⟨j,j1,j2,rfl,rfl,rfl⟩:=Dv h
  obtain⟨C,B,hC,hB,hq,rfl⟩:=hx
  obtain⟨y,hy⟩:=lZ (P:=P) (t:=e) (by omega)
  refine qQ.pure ok hM (rv:=.pointer (some ⟨B,_+j*P.cellsOf e,none⟩)) ?_ ⟨C,B,hC,hB,hq,by rw[Nat.add_assoc]⟩
  have:(j:Int)<m:=by omega
  have h':¬m≤j:=by omega
  simp[Instr.indexAt,asIntOf,run_underlying hu,iz,this,h',gw w hy,Addr.add_lit]
 ·rename_i m e sh t x off k n hu
  have lu:ri=.int k n:=hi
  subst lu
  obtain⟨hz,h⟩:=HL h
  have hz:=HM hz
  obtain⟨j,j1,j2,rfl,rfl,rfl⟩:=Dv h
  obtain⟨B,o,rfl,hB,hE⟩:=hx
  obtain⟨y,hy⟩:=lZ (P:=P) (t:=e) (by omega)
  refine qQ.pure ok hM (rv:=.pointer (some ⟨B,_+j*P.cellsOf e,none⟩)) ?_ ⟨B,o,by rw[Nat.add_assoc],hB,hE⟩
  have:(j:Int)<m:=by omega
  have h':¬m≤j:=by omega
  simp[Instr.indexAt,asIntOf,run_underlying hu,iz,this,h',gw w hy,Addr.add_lit]
 ·exact h.elim
theorem YE {M:zC}{cs:List zL}{us:Array Value}{off n:Nat}{vs:List zL}(h:zQ (zZ M) cs us.toList)(hc:kx cs off n=some vs):zQ (zZ M) vs (us.extract off (off+n)).toList:=by
 obtain⟨h1,rfl,h2⟩:=Dm hc
 have:=(h.drop off).take n
 rw[Array.toList_extract,List.extract_eq_take_drop]
 simpa using this
theorem YF {P:Program}{M:zC}{w:World}{t:TypeId}{cs:List zL}{us:Array Value}{off:Nat}{vs:List zL}{v:zI}(h:zQ (zZ M) cs us.toList)
  (hc:kx cs off (P.cellsOf t)=some vs) (hp:nM (jH P t) vs=some v):∃rv,(part t us off).run P w=.ok rv w∧qA M v rv:=by
 have bh:=YE h hc
 obtain⟨h1,h2,h3⟩:=Dm hc
 have hl:=h.length
 rcases NU hp with⟨dZ,rfl⟩|⟨dZ,c,rfl,rfl⟩
 ·obtain⟨⟨d,hd⟩,hr⟩:=o6 (P:=P) w dZ
  obtain⟨i,hi⟩:=HA hd
  exact⟨.agg (us.extract off (off+P.cellsOf t)),by simp[part,hr,gw w hi],_,rfl,bh⟩
 ·obtain⟨⟨d,hd⟩,hr⟩:=o6 (P:=P) w dZ
  simp only[List.length_singleton] at h3
  have aU:off<us.size:=by simp at hl;omega
  have HN:off<cs.length:=by omega
  refine⟨us[off],by simp[part,hr,aU],?_⟩
  have e:cs[off]=c:=by
   have:=congrArg (·[0]?) h2
   simp only[List.getElem?_cons_zero] at this
   rw[←h3,List.getElem?_take,if_pos (by omega),List.getElem?_drop,Nat.add_zero,List.getElem?_eq_getElem HN] at this
   exact(Option.some.inj this).symm
  have:=h.get off HN (by simpa using aU)
  rw[e] at this
  show zZ M c us[off]
  simpa using this
theorem vKg {P:Program}{M:zC}{w:World}(ok:Ok M)(hM:M.H=w.heap){s:TypeId}{x v:zI}{f:Nat}{u:qH}{rx:Value}(hx:qA M x rx)
  (h:yN (Ny P s x f) v u):qQ P (Instr.field s rx f) M w v u:=by
 unfold Ny at h
 split at h
 ·rename_i fs cs hs
  split at h
  ·rename_i fd hf
   split at h
   ·rename_i vs hc
    obtain⟨h',rfl⟩:=NR h
    obtain⟨us,rfl,lk⟩:=hx
    obtain⟨rv,hr,hv⟩:=YF (P:=P) (w:=w) lk hc h'
    exact qQ.pure ok hM (by simp[Instr.field,run_underlying hs,hf,asAgg,hr]) hv
   ·exact h.elim
  ·exact h.elim
 ·exact h.elim
theorem vA7 {P:Program}{M:zC}{w:World}(ok:Ok M)(hM:M.H=w.heap){t:TypeId}{x i v:zI}{u:qH}{rx ri:Value}(hx:qA M x rx)(hi:qA M i ri)
  (h:yN (Nx P t x i) v u):qQ P (Instr.index t rx ri) M w v u:=by
 unfold Nx at h
 split at h
 ·rename_i m e cs k n hu
  have lu:ri=.int k n:=hi
  subst lu
  obtain⟨hc,h⟩:=fm h
  simp only[Bool.and_eq_true] at hc
  obtain⟨⟨c1,c2⟩,c3⟩:=hc
  have c1:=Nat.eq_of_beq_eq_true c1
  have c3:=Nat.eq_of_beq_eq_true c3
  obtain⟨j,j1,j2,rfl,rfl,rfl⟩:=Dv h
  obtain⟨us,rfl,lk⟩:=hx
  have dZ:jH P e=some false:=by
   split at c2
   ·rename_i e1;exact e1
   ·cases c2
  have hj:j<cs.length:=by omega
  have eG:kx cs j (P.cellsOf e)=some [cs[j]]:=by
   unfold kx
   have:Nat.ble (j+P.cellsOf e) cs.length=true:=Nat.ble_eq_true_of_le (by omega)
   rw[this,c1]
   simp[List.take_one,List.head?_drop,hj]
  obtain⟨rv,hr,hv⟩:=YF (P:=P) (w:=w) lk eG (v:=.c cs[j]) (by rw[dZ];rfl)
  obtain⟨y,hy⟩:=lZ (P:=P) (t:=e) (by omega)
  have hjm:(j:Int)<m:=by omega
  refine qQ.pure ok hM (rv:=rv) ?_ ?_
  ·have h':¬m≤j:=by omega
   simp[Instr.index,asIntOf,run_underlying hu,hjm,h',gw w hy,c1,hr]
  ·have:cs.getD j .undef=cs[j]:=by simp[List.getD,hj]
   rw[this];exact hv
 ·exact h.elim
theorem Oc (a b:Bool):la a b=(a==b):=by cases a<;>cases b<;>rfl
theorem vLz {P:Program}{M:zC}{w:World}(ok:Ok M)(hM:M.H=w.heap){op:BinOp}{k:IntKind}{x y:Int}{xt:TypeId}{v:zI}{u:qH}(hs:op≠.shl∧op≠.shr)
  (h:yN (Yc op k x y) v u):qQ P (binOp op xt (.int k x) (.int k y)) M w v u:=by
 cases op with
 |shl=>exact absurd rfl hs.1
 |shr=>exact absurd rfl hs.2
 |quo=>
  obtain⟨h1,rfl,rfl⟩:=lj h
  simp only[Bool.not_eq_true',decide_eq_false_iff_not] at h1
  exact qQ.pure ok hM (rv:=.int k (k.wrap (x.tdiv y))) (by simp[binOp,Op.intDiv,h1]) rfl
 |rem=>
  obtain⟨h1,rfl,rfl⟩:=lj h
  simp only[Bool.not_eq_true',decide_eq_false_iff_not] at h1
  exact qQ.pure ok hM (rv:=.int k (x.tmod y)) (by simp[binOp,Op.intDiv,h1]) rfl
 |neq=>
  obtain⟨rfl,rfl⟩:=wF h
  exact qQ.pure ok hM (rv:=.bool (!decide (x=y))) (by simp[binOp,Op.intCmp,bne,BEq.beq]) rfl
 |eql=>
  obtain⟨rfl,rfl⟩:=wF h
  exact qQ.pure ok hM (rv:=.bool (decide (x=y))) (by simp[binOp,Op.intCmp,BEq.beq]) rfl
 |_=>
  obtain⟨rfl,rfl⟩:=wF h
  exact qQ.pure ok hM (rv:=_) (by simp only[binOp,ne_eq,not_true_eq_false,if_false];rfl) rfl
theorem YG {P:Program}{M:zC}{w:World}(ok:Ok M)(hM:M.H=w.heap){op:BinOp}{k j:IntKind}{x y:Int}{xt:TypeId}{v:zI}{u:qH}(hs:op=.shl∨op=.shr)
  (h:yN (Yd op k x y) v u):qQ P (binOp op xt (.int k x) (.int j y)) M w v u:=by
 rcases hs with rfl|rfl
 ·obtain⟨h1,rfl,rfl⟩:=lj h
  simp only[Bool.not_eq_true',decide_eq_false_iff_not] at h1
  exact qQ.pure ok hM (rv:=.int k (k.wrap (x*2^(min y.toNat k.bits)))) (by simp only[binOp,Op.shift,h1,if_false];rfl) rfl
 ·obtain⟨h1,rfl,rfl⟩:=lj h
  simp only[Bool.not_eq_true',decide_eq_false_iff_not] at h1
  exact qQ.pure ok hM (rv:=.int k (x.fdiv (2^(min y.toNat k.bits)))) (by simp only[binOp,Op.shift,h1,if_false];rfl) rfl
def Dx (P:Program)(eqT:TypeId→Bool):Prop:=∀t,eqT t=true→∀(M:zC) (xs ys:List zL) (us vs:Array Value) (r:Bool) (w:World),Hd P t xs ys=some r→
 zQ (zZ M) xs us.toList→zQ (zZ M) ys vs.toList→P.eqGuardType P.depth t=false∧(Op.equal t (.agg us) (.agg vs)).run P w=.ok r w
def tX:zL→zL→Option Bool
 |.int j a,.int k b=>bif fk j k then some (decide (a=b)) else none
 |.bool a,.bool b=>some (la a b)
 |_,_=>none
theorem vN0 {x y:zL}{xs ys:List zL}{r:Bool}(h:jX (x::xs) (y::ys)=some r):∃b r',tX x y=some b∧jX xs ys=some r'∧r=(b&&r'):=by
 have Dy:(match tX x y,jX xs ys with|some b,some r'=>some (b&&r')|_,_=>none)=some r→∃b r',tX x y=some b∧jX xs ys=some r'∧r=(b&&r'):=by
  intro h
  split at h
  ·rename_i b r' e1 e2
   cases h
   exact⟨b,r',e1,e2,rfl⟩
  ·cases h
 apply Dy
 rw[←h]
 match x,y with
 |.int j a,.int k b=>
  cases hk:fk j k<;>cases xs<;>cases ys<;>simp only[jX,tX,hk,cond_true,cond_false,Bool.and_true]<;>first|(generalize jX _ _=z;cases z<;>rfl)|rfl
 |.bool a,.bool b=>
  cases xs<;>cases ys<;>simp only[jX,tX,Bool.and_true]<;>first|(generalize jX _ _=z;cases z<;>rfl)|rfl
 |.int _ _,.undef|.int _ _,.bool _|.int _ _,.fsl _ _ _|.int _ _,.nfl _ _ _|.int _ _,.nsl|.int _ _,.osl _ _|.int _ _,.bsl _ _ _|.int _ _,.ptr _ _|.int _ _,.eptr _ _ _|.int _ _,.fptr _ _ _ _|.int _ _,.mrow _ _ _|.int _ _,.mptr _ _|.int _ _,.meptr _ _ _ _|.int _ _,.nilp|.int _ _,.nilf|.int _ _,.nilm|.int _ _,.fn _ _|.int _ _,.map _=>cases xs<;>cases ys<;>cases h
 |.bool _,.undef|.bool _,.int _ _|.bool _,.fsl _ _ _|.bool _,.nfl _ _ _|.bool _,.nsl|.bool _,.osl _ _|.bool _,.bsl _ _ _|.bool _,.ptr _ _|.bool _,.eptr _ _ _|.bool _,.fptr _ _ _ _|.bool _,.mrow _ _ _|.bool _,.mptr _ _|.bool _,.meptr _ _ _ _|.bool _,.nilp|.bool _,.nilf|.bool _,.nilm|.bool _,.fn _ _|.bool _,.map _=>cases xs<;>cases ys<;>cases h
 |.undef,y|.fsl _ _ _,y|.nfl _ _ _,y|.nsl,y|.osl _ _,y|.bsl _ _ _,y|.ptr _ _,y|.eptr _ _ _,y|.fptr _ _ _ _,y|.mrow _ _ _,y|.mptr _ _,y|.meptr _ _ _ _,y|.nilp,y|.nilf,y|.nilm,y|.fn _ _,y|.map _,y=>cases xs<;>cases ys<;>cases y<;>cases h
def Dz (b:Bool)(us:List Value):Value:=bif b then .agg us.toArray else us.getD 0 (.bool false)
theorem xW {P:Program}:∀{a:List (Option IntKind)} {r:List (Option IntKind)} {xs:List zL},fD (a++r) xs=true→fD a (xs.take a.length)=true∧fD r (xs.drop a.length)=true∧(xs.take a.length).length=a.length
 |[],r,xs,h=>⟨rfl,h,rfl⟩
 |k::a,r,xs,h=>by
  match k,xs,h with
  |some k,.int j n::xs,h=>
   have h':(fk j k&&fD (a++r) xs)=true:=h
   rw[Bool.and_eq_true] at h'
   obtain⟨h1,h2,h3⟩:=xW (P:=P) h'.2
   refine⟨?_,h2,by simp[h3]⟩
   show(fk j k&&fD a (xs.take a.length))=true
   rw[h'.1,h1];rfl
  |none,.bool b::xs,h=>
   have h':fD (a++r) xs=true:=h
   obtain⟨h1,h2,h3⟩:=xW (P:=P) h'
   exact⟨h1,h2,by simp[h3]⟩
theorem Od:∀{a b c d:List zL} {r:Bool},a.length=b.length→jX (a++c) (b++d)=some r→∃r1 r2,jX a b=some r1∧jX c d=some r2∧r=(r1&&r2)
 |[],[],c,d,r,_,h=>⟨true,r,rfl,h,rfl⟩
 |x::a,y::b,c,d,r,hl,h=>by
  obtain⟨e,r',h1,h2,rfl⟩:=vN0 h
  obtain⟨r1,r2,h3,h4,rfl⟩:=Od (by simpa using hl) h2
  refine⟨e&&r1,r2,?_,h4,(Bool.and_assoc _ _ _).symm⟩
  have mk:∀{x y:zL} {xs ys:List zL} {b r':Bool},tX x y=some b→jX xs ys=some r'→xs.length=ys.length→jX (x::xs) (y::ys)=some (b&&r'):=by
   intro x y xs ys b r' h1 h2 hl
   cases x<;>cases y<;>first|(cases h1;done)|skip
   ·rename_i j m k n
    simp only[tX] at h1
    cases hk:fk j k with
    |false=>rw[hk] at h1;cases h1
    |true=>
     rw[hk] at h1
     cases h1
     cases xs<;>cases ys
     ·cases h2;simp[jX,hk]
     ·cases hl
     ·cases hl
     ·simp[jX,hk,h2]
   ·cases h1
    cases xs<;>cases ys
    ·cases h2;simp[jX]
    ·cases hl
    ·cases hl
    ·simp[jX,h2]
  exact mk h1 h3 (by simpa using hl)
def Oe (P:Program)(dd:Nat)(t:TypeId)(ks:List (Option IntKind)):Prop:=∃b,jH P t=some b∧(b=false→ks.length=1)∧∀(M:zC) (w:World) (us vs:List Value) (xs ys:List zL) (r:Bool),
 fD ks xs=true→fD ks ys=true→jX xs ys=some r→zQ (zZ M) xs us→zQ (zZ M) ys vs→(Op.equalIn dd t (Dz b us) (Dz b vs)).run P w=.ok r w
theorem nQ:∀{ks:List (Option IntKind)} {xs:List zL},fD ks xs=true→xs.length=ks.length
 |[],[],_=>rfl
 |some k::ks,.int j n::xs,h=>by
  have h':(fk j k&&fD ks xs)=true:=h
  rw[Bool.and_eq_true] at h'
  simp[nQ h'.2]
 |none::ks,.bool b::xs,h=>by
  have h':fD ks xs=true:=h
  simp[nQ h']
theorem HO {P:Program}{t:TypeId}{b:Bool}(ht:jH P t=some b){us:Array Value}{off:Nat}{w:World}(hn:off+P.cellsOf t≤us.size)(h1:b=false→P.cellsOf t=1)(h0:∃i,P.info? t=some i):
  (part t us off).run P w=.ok (Dz b ((us.toList.drop off).take (P.cellsOf t))) w:=by
 obtain⟨⟨d,hd⟩,hr⟩:=o6 (P:=P) w ht
 cases b with
 |true=>
  obtain⟨i,hi⟩:=h0
  simp only[part,Sem.run_bind,hr,Result.andThen_ok,if_true,gw w hi,Sem.run_pure,Dz,cond_true]
  congr 2
  apply Array.ext'
  rw[Array.toList_extract,List.extract_eq_take_drop]
  simp
 |false=>
  have h1:=h1 rfl
  have aU:off<us.size:=by omega
  have e:us[off]? =some us[off]:=by simp[aU]
  have e2:(us.toList.drop off).take 1=[us[off]]:=by
   rw[List.drop_eq_getElem_cons (by simpa using aU)]
   simp
  simp only[part,Sem.run_bind,hr,Result.andThen_ok,Bool.false_eq_true,if_false,e,Sem.run_pure,Dz,cond_false,h1,e2]
  rfl
theorem YH {P:Program}{dd:Nat}{M:zC}{w:World}{us vs:Array Value}{rec:TypeId→Option (List (Option IntKind))}:∀(fs:List Field) (i:Nat) (ks:List (Option IntKind)) (xs ys:List zL) (r:Bool),(∀f∈fs,∀a,rec f.type=some a→Oe P dd f.type a)→
  Hc P rec i fs=some ks→fD ks xs=true→fD ks ys=true→jX xs ys=some r→zQ (zZ M) xs (us.toList.drop i)→zQ (zZ M) ys (vs.toList.drop i)→(Op.eqFields dd us vs fs).run P w=.ok r w
 |[],i,ks,xs,ys,r,_,hk,hx,hy,he,hu,hv=>by
  cases hk
  cases xs with
  |cons _ _=>cases hx
  |nil=>cases ys with
   |cons _ _=>cases hy
   |nil=>cases he;rfl
 |f::fs,i,ks,xs,ys,r,bh,hk,hx,hy,he,hu,hv=>by
  unfold Hc at hk
  cases hc:(Nat.beq f.offset i&& !(f.name== "_")) with
  |false=>rw[hc] at hk;cases hk
  |true=>
   rw[hc] at hk
   rw[Bool.and_eq_true] at hc
   have ho:f.offset=i:=by simpa using hc.1
   have hn:f.name≠ "_" :=by simpa using hc.2
   dsimp only[cond_true] at hk
   split at hk
   ·rename_i a r0 ha mM
    cases hl:(Nat.beq a.length (P.cellsOf f.type)&&Nat.blt 0 a.length) with
    |false=>rw[hl] at hk;cases hk
    |true=>
     rw[hl] at hk
     cases hk
     rw[Bool.and_eq_true] at hl
     have HP:0<a.length:=by have:=hl.2;simp[Nat.blt] at this;omega
     have hl:=Nat.eq_of_beq_eq_true hl.1
     obtain⟨b,hb,jv,hE⟩:=bh f (List.mem_cons_self ..) a ha
     obtain⟨x1,x2,x3⟩:=xW (P:=P) hx
     obtain⟨y1,y2,y3⟩:=xW (P:=P) hy
     have ex:xs=xs.take a.length++xs.drop a.length:=(List.take_append_drop _ _).symm
     have ey:ys=ys.take a.length++ys.drop a.length:=(List.take_append_drop _ _).symm
     rw[ex,ey] at he
     obtain⟨r1,r2,e1,e2,rfl⟩:=Od (by rw[x3,y3]) he
     have rP:=hu.length
     have DA:=hv.length
     have tY:=nQ hx
     have tZ:=nQ hy
     rw[List.length_append] at tY tZ
     rw[List.length_drop] at rP DA
     have ua:=hu.take a.length
     have lx:=hv.take a.length
     have ub:=hu.drop a.length
     have mK:=hv.drop a.length
     rw[List.drop_drop] at ub mK
     have h0:∃i,P.info? f.type=some i:=by
      obtain⟨⟨d,hd⟩,_⟩:=o6 (P:=P) w hb
      exact HA hd
     have step:=hE M w _ _ _ _ r1 x1 y1 e1 ua lx
     rw[hl] at ub mK
     have ih:=YH (w:=w) fs (i+P.cellsOf f.type) r0 _ _ r2 (fun g hg=>bh g (List.mem_cons_of_mem _ hg)) mM x2 y2 e2 (by rw[hl];exact ub) (by rw[hl];exact mK)
     have bu:i+P.cellsOf f.type≤us.size:=by simp at rP;omega
     have bv:i+P.cellsOf f.type≤vs.size:=by simp at DA;omega
     have p1:=HO (w:=w) hb bu (fun e=>by have:=jv e;omega) h0
     have p2:=HO (w:=w) hb bv (fun e=>by have:=jv e;omega) h0
     rw[hl] at step
     unfold Op.eqFields
     rw[if_pos hn,ho]
     simp only[Sem.run_bind,p1,p2,Result.andThen_ok,step]
     cases r1 with
     |true=>simp only[Bool.not_true,Bool.false_eq_true,if_false,Bool.true_and];exact ih
     |false=>simp
   ·cases hk
theorem YI {P:Program}{dd:Nat}{M:zC}{w:World}{us vs:Array Value}{e:TypeId}{a:List (Option IntKind)}(hE:Oe P dd e a)(hl:a.length=P.cellsOf e)(HP:0<a.length):∀(c j:Nat) (xs ys:List zL) (r:Bool),
  fD (tL c a) xs=true→fD (tL c a) ys=true→jX xs ys=some r→zQ (zZ M) xs (us.toList.drop (j*P.cellsOf e))→zQ (zZ M) ys (vs.toList.drop (j*P.cellsOf e))→(Op.eqItems dd e (P.cellsOf e) us vs (List.range' j c)).run P w=.ok r w
 |0,j,xs,ys,r,hx,hy,he,hu,hv=>by
  cases xs with
  |cons _ _=>cases hx
  |nil=>cases ys with
   |cons _ _=>cases hy
   |nil=>cases he;rfl
 |c+1,j,xs,ys,r,hx,hy,he,hu,hv=>by
  obtain⟨b,hb,jv,HI⟩:=id hE
  obtain⟨x1,x2,x3⟩:=xW (P:=P) hx
  obtain⟨y1,y2,y3⟩:=xW (P:=P) hy
  have ex:xs=xs.take a.length++xs.drop a.length:=(List.take_append_drop _ _).symm
  have ey:ys=ys.take a.length++ys.drop a.length:=(List.take_append_drop _ _).symm
  rw[ex,ey] at he
  obtain⟨r1,r2,e1,e2,rfl⟩:=Od (by rw[x3,y3]) he
  have rP:=hu.length
  have DA:=hv.length
  have tY:=nQ hx
  have tZ:=nQ hy
  have rQ:(tL (c+1) a).length=a.length+(tL c a).length:=by show(a++tL c a).length=_;rw[List.length_append]
  rw[rQ] at tY tZ
  rw[List.length_drop] at rP DA
  have ua:=hu.take a.length
  have lx:=hv.take a.length
  have ub:=hu.drop a.length
  have mK:=hv.drop a.length
  rw[List.drop_drop] at ub mK
  have h0:∃i,P.info? e=some i:=by
   obtain⟨⟨d,hd⟩,_⟩:=o6 (P:=P) w hb
   exact HA hd
  have step:=HI M w _ _ _ _ r1 x1 y1 e1 ua lx
  have ej:j*P.cellsOf e+a.length=(j+1)*P.cellsOf e:=by rw[Nat.add_mul];omega
  rw[ej] at ub mK
  have ih:=YI (w:=w) hE hl HP c (j+1) _ _ r2 x2 y2 e2 ub mK
  have bu:j*P.cellsOf e+P.cellsOf e≤us.size:=by simp at rP;omega
  have bv:j*P.cellsOf e+P.cellsOf e≤vs.size:=by simp at DA;omega
  have p1:=HO (w:=w) hb bu (fun e=>by have:=jv e;omega) h0
  have p2:=HO (w:=w) hb bv (fun e=>by have:=jv e;omega) h0
  rw[hl] at step
  rw[show List.range' j (c+1)=j::List.range' (j+1) c from rfl]
  simp only[Op.eqItems,Sem.run_bind,p1,p2,Result.andThen_ok,step]
  cases r1 with
  |true=>simp only[Bool.not_true,Bool.false_eq_true,if_false,Bool.true_and];exact ih
  |false=>simp
theorem Of {P:Program}(d:Nat):∀(m:Nat) (t:TypeId) (ks:List (Option IntKind)),P.keyTypeAt m t=true→xv P m t=some ks→Oe P (d+m) t ks
 |0,_,_,h,_=>by simp[Program.keyTypeAt] at h
 |m+1,t,ks,hk,h=>by
  unfold Program.keyTypeAt at hk
  unfold xv at h
  split at h
  ·rename_i k hu
   cases h
   refine⟨false,by unfold jH;rw[hu],fun _=>rfl,fun M w us vs xs ys r hx hy he nR gy=>?_⟩
   have tY:=nQ hx
   have tZ:=nQ hy
   match xs,ys,us,vs,hx,hy,nR,gy,tY,tZ with
   |[.int j a],[.int j' c],[u],[v],hx,hy,⟨ua,_⟩,⟨lx,_⟩,_,_=>
    have e1:u=.int j a:=ua
    have e2:v=.int j' c:=lx
    subst e1;subst e2
    simp only[jX] at he
    cases hk:fk j j' with
    |false=>rw[hk] at he;cases he
    |true=>
     rw[hk] at he
     cases he
     rw[←oR hk]
     exact run_equalIn_int (P:=P) w (d+m) t j k a c hu
  ·rename_i hu
   cases h
   refine⟨false,by unfold jH;rw[hu],fun _=>rfl,fun M w us vs xs ys r hx hy he nR gy=>?_⟩
   have tY:=nQ hx
   have tZ:=nQ hy
   match xs,ys,us,vs,hx,hy,nR,gy,tY,tZ with
   |[.bool a],[.bool c],[u],[v],hx,hy,⟨ua,_⟩,⟨lx,_⟩,_,_=>
    have e1:u=.bool a:=ua
    have e2:v=.bool c:=lx
    subst e1;subst e2
    cases he
    show(Op.equalIn (d+m+1) t (.bool a) (.bool c)).run P w=_
    rw[run_equalIn_bool' (P:=P) w (d+m) t a c hu,Oc]
  ·rename_i fs hu
   simp only[hu,Bool.and_eq_true,Bool.not_eq_true'] at hk
   refine⟨true,by unfold jH;rw[hu],(fun e=>by cases e),fun M w us vs xs ys r hx hy he nR gy=>?_⟩
   have hf:P.fieldsOf t=fs:=by unfold Program.fieldsOf;rw[hu]
   have:=run_equalIn_struct (P:=P) w (d+m) t us.toArray vs.toArray (by rw[hf];exact hu) hk.2
   rw[hf] at this
   refine this.trans (YH (rec:=xv P m) _ 0 ks xs ys r (fun f hf a ha=>?_) h hx hy he (by simpa using nR) (by simpa using gy))
   have YJ:=Array.all_eq_true_iff_forall_mem.1 hk.1.1 f (Array.mem_toList_iff.1 hf)
   simp only[Bool.and_eq_true,bne_iff_ne,ne_eq] at YJ
   exact Of d m f.type a YJ.2 ha
  ·rename_i n e hu
   simp only[hu] at hk
   split at h
   ·rename_i a ha
    cases hl:(Nat.beq a.length (P.cellsOf e)&&Nat.blt 0 a.length) with
    |false=>rw[hl] at h;cases h
    |true=>
     rw[hl] at h
     cases h
     rw[Bool.and_eq_true] at hl
     have HP:0<a.length:=by have:=hl.2;simp[Nat.blt] at this;omega
     have hl:=Nat.eq_of_beq_eq_true hl.1
     refine⟨true,by unfold jH;rw[hu],(fun e=>by cases e),fun M w us vs xs ys r hx hy he nR gy=>?_⟩
     obtain⟨i,hi⟩:=lZ (P:=P) (t:=e) (by omega)
     have:=run_equalIn_array (P:=P) w (d+m) us.toArray vs.toArray hu hi
     refine this.trans ?_
     rw[List.range_eq_range']
     exact YI (Of d m e a hk ha) hl HP n 0 xs ys r hx hy he (by simpa using nR) (by simpa using gy)
   ·cases h
  ·cases h
theorem DB {P:Program}{eqT:TypeId→Bool}(h:∀t,eqT t=true→(P.keyTypeAt 8 t&& !P.eqGuardType P.depth t)=true):Dx P eqT:=by
 intro t ht M xs ys us vs r w he hu hv
 have h:=h t ht
 simp only[Bool.and_eq_true,Bool.not_eq_true'] at h
 refine⟨h.2,?_⟩
 unfold Hd at he
 split at he
 ·rename_i ks hk
  unfold Ye at hk
  split at hk
  ·rename_i fs hfs
   cases hc:(fD ks xs&&fD ks ys) with
   |false=>rw[hc] at he;cases he
   |true=>
    rw[hc] at he
    rw[Bool.and_eq_true] at hc
    obtain⟨b,hb,_,hE⟩:=Of (P:=P) 9992 8 t ks h.1 hk
    have:b=true:=by
     unfold jH at hb
     rw[hfs] at hb
     exact(Option.some.inj hb).symm
    subst this
    exact hE M w us.toList vs.toList xs ys r hc.1 hc.2 he hu hv
  ·cases hk
 ·cases he
theorem YK {P:Program}{t:TypeId}(h:He P t=true):P.underlying t=some .bool:=by
 unfold He at h
 split at h
 ·rename_i e;exact e
 ·cases h
theorem vM1 {P:Program}{eqT:TypeId→Bool}(heq:Dx P eqT){M:zC}{w:World}(ok:Ok M)(hM:M.H=w.heap){op:BinOp}{xt:TypeId}{ox oy:Operand}{x y v:zI}{u:qH}{rx ry:Value}
  (hx:qA M x rx) (hy:qA M y ry) (h:yN (Nu P eqT op xt ox oy x y) v u):qQ P (do eqGuard op xt ox oy rx ry;binOp op xt rx ry) M w v u:=by
 have quiet:∀{k j:IntKind} {a b:Int},(eqGuard op xt ox oy (.int k a) (.int j b)).run P w=.ok () w:=by
  intro k j a b
  unfold eqGuard
  split<;>rfl
 have step:∀{a b:Value},(eqGuard op xt ox oy a b).run P w=.ok () w→qQ P (binOp op xt a b) M w v u→qQ P (do eqGuard op xt ox oy a b;binOp op xt a b) M w v u:=by
  rintro a b hg ⟨rv,w',M',h1,h2⟩
  exact⟨rv,w',M',by simp only[Sem.run_bind,hg,Result.andThen_ok];exact h1,h2⟩
 unfold Nu at h
 split at h
 ·have e1:rx=_:=hx
  have e2:ry=_:=hy
  subst e1;subst e2
  exact step quiet (YG ok hM (.inl rfl) h)
 ·have e1:rx=_:=hx
  have e2:ry=_:=hy
  subst e1;subst e2
  exact step quiet (YG ok hM (.inr rfl) h)
 ·rename_i k a j b n1 n2
  obtain⟨hk,h2⟩:=fm h
  have hk:=oR hk
  subst hk
  have e1:rx=_:=hx
  have e2:ry=_:=hy
  subst e1;subst e2
  exact step quiet (vLz ok hM ⟨fun e=>n1 e,fun e=>n2 e⟩ h2)
 ·rename_i a b
  have e1:rx=_:=hx
  have e2:ry=_:=hy
  subst e1;subst e2
  obtain⟨hb,h2⟩:=fm h
  obtain⟨rfl,rfl⟩:=wF h2
  have hr:=run_equalIn_bool' (P:=P) w 9999 xt a b (YK hb)
  refine qQ.pure ok hM (rv:=.bool (la a b)) ?_ rfl
  have mN:(Op.equal xt (.bool a) (.bool b)).run P w=.ok (a==b) w:=hr
  have hg:(eqGuard .eql xt ox oy (.bool a) (.bool b)).run P w=.ok () w:=by unfold eqGuard;rfl
  simp only[Sem.run_bind,hg,Result.andThen_ok,binOp,mN,Sem.run_pure,Oc]
 ·rename_i a b
  have e1:rx=_:=hx
  have e2:ry=_:=hy
  subst e1;subst e2
  obtain⟨hb,h2⟩:=fm h
  obtain⟨rfl,rfl⟩:=wF h2
  have hr:=run_equalIn_bool' (P:=P) w 9999 xt a b (YK hb)
  refine qQ.pure ok hM (rv:=.bool (!la a b)) ?_ rfl
  have mN:(Op.equal xt (.bool a) (.bool b)).run P w=.ok (a==b) w:=hr
  have hg:(eqGuard .neq xt ox oy (.bool a) (.bool b)).run P w=.ok () w:=by unfold eqGuard;rfl
  simp only[Sem.run_bind,hg,Result.andThen_ok,binOp,mN,Sem.run_pure,Oc]
 ·obtain⟨ht,h⟩:=fm h
  split at h
  ·rename_i r hr
   obtain⟨rfl,rfl⟩:=wF h
   obtain⟨us,rfl,lk⟩:=hx
   obtain⟨vs,rfl,dA⟩:=hy
   obtain⟨g1,g2⟩:=heq xt ht M _ _ us vs r w hr lk dA
   exact step (run_eqGuard_agg w _ xt ox oy us vs g1) (qQ.pure ok hM (rv:=.bool r) (by simp only[binOp,Sem.run_bind,g2,Result.andThen_ok];rfl) rfl)
  ·exact h.elim
 ·obtain⟨ht,h⟩:=fm h
  split at h
  ·rename_i r hr
   obtain⟨rfl,rfl⟩:=wF h
   obtain⟨us,rfl,lk⟩:=hx
   obtain⟨vs,rfl,dA⟩:=hy
   obtain⟨g1,g2⟩:=heq xt ht M _ _ us vs r w hr lk dA
   exact step (run_eqGuard_agg w _ xt ox oy us vs g1) (qQ.pure ok hM (rv:=.bool (!r)) (by simp only[binOp,Sem.run_bind,g2,Result.andThen_ok];rfl) rfl)
  ·exact h.elim
 ·exact h.elim
theorem vD3 {P:Program}{M:zC}{w:World}(ok:Ok M)(hM:M.H=w.heap){op:UnOp}{x v:zI}{u:qH}{rx:Value}(hx:qA M x rx)(h:yN (Nv op x) v u):
  qQ P (Op.unary op rx) M w v u:=by
 unfold Nv at h
 split at h
 ·obtain⟨rfl,rfl⟩:=wF h
  have e1:rx=_:=hx
  subst e1
  exact qQ.pure ok hM rfl rfl
 ·obtain⟨rfl,rfl⟩:=wF h
  have e1:rx=_:=hx
  subst e1
  exact qQ.pure ok hM rfl rfl
 ·exact h.elim
end Go.Ab
