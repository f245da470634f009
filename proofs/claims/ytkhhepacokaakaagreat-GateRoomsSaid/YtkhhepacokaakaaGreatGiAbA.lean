/- part 0 -/
import Derived.Calls
import Derived.Orders
import Derived.KernelRfl
import Derived.Laws.Append
import Derived.Laws.AppendOwn
import Derived.Laws.MakeOwn
import Derived.Laws.IdiomCopy
import Derived.Laws.StructEq
import Derived.Laws.CopyRow
import Derived.ChangeKeysEq
set_option linter.unusedVariables false
namespace Go.Ab
inductive Ty where
 |int (k:IntKind)|bool|sl (t:Ty)|pair (a b:Ty)
abbrev Ty.den:Ty→Type
 |.int _=>Int|.bool=>Bool|.sl t=>List t.den|.pair a b=>a.den×b.den
def Ty.size:Ty→Nat
 |.int _=>1|.bool=>1|.sl _=>1|.pair a b=>a.size+b.size
def Ty.flat:Ty→Bool
 |.int _|.bool=>true|.sl _=>false|.pair a b=>a.flat&&b.flat
def Ty.dflt:(t:Ty)→t.den
 |.int _=>(0:Int)|.bool=>false|.sl t=>([]:List t.den)|.pair a b=>(a.dflt,b.dflt)
def dv:IntKind→IntKind→Bool
 |.i8,.i8|.i16,.i16|.i32,.i32|.i64,.i64|.u8,.u8|.u16,.u16|.u32,.u32|.u64,.u64=>true
 |_,_=>false
theorem od {a b}(h:dv a b=true):a=b:=by cases a<;>cases b<;>first|rfl|cases h
def mI:Ty→Ty→Bool
 |.int j,.int k=>dv j k
 |.bool,.bool=>true
 |.sl a,.sl b=>mI a b
 |.pair a b,.pair c d=>mI a c&&mI b d
 |_,_=>false
theorem Ck:∀{a b},mI a b=true→a=b
 |.int j,.int k,h=>congrArg Ty.int (od h)
 |.bool,.bool,_=>rfl
 |.sl a,.sl b,h=>congrArg Ty.sl (Ck (a:=a) (b:=b) h)
 |.pair a b,.pair c d,h=>by
  simp[mI] at h
  rw[Ck h.1,Ck h.2]
def eh (a b:Ty)(xs:List a.den):Option (List b.den):=
 if h:mI a b=true then some (Ck h▸xs) else none
inductive zR where
 |undef
 |int (k:IntKind) (n:Int)
 |bool (b:Bool)
 |fsl (sh:Bool) (t:Ty) (xs:List t.den)
 |nfl (sh:Bool) (t:Ty) (xs:List t.den)
 |nsl
 |osl (id:Nat) (r:Option (Nat×Nat))
 |bsl (id off len:Nat)
 |ptr (id off:Nat)
 |eptr (id i off:Nat)
 |fptr (sh:Bool) (t:Ty) (x:t.den) (off:Nat)
 |mrow (id i ver:Nat)
 |mptr (id i:Nat)
 |meptr (id i j ver:Nat)
 |nilp|nilf|nilm
 |fn (f:Nat) (cap:List Nat)
 |map (id:Nat)
 |str (xs:List Int)
inductive zO where
 |undef
 |skp
 |c (v:zR)
 |agg (vs:List zR)
 |tup (xs:List (Bool×List zR))
inductive Obj where
 |box (own:Bool) (cells:List zR)
 |robox (cells:List zR)
 |arr (own:Bool) (t:Ty) (xs:List t.den)
 |mat (ver:Nat) (xs:List (List Int))
 |pmat (ver:Nat) (xs:List (List Int)) (n:Nat)
 |imap (cg:List (Int×Bool))
 |gone
abbrev Hp:=Nat→Option Obj
abbrev yO:=List (Nat×Obj)
def qW (h:Hp)(id:Nat)(o:Obj):Hp:=fun n=>bif Nat.beq n id then some o else h n
def qA (h:Hp):yO→Hp
 |[]=>h
 |(id,o)::u=>qA (qW h id o) u
structure St where
 t:Nat→zO
 h:Hp
def wT (t:Nat→zO)(d:Nat)(v:zO):Nat→zO:=fun n=>bif Nat.beq n d then v else t n
def fy (t:Nat→zO)(d:Option Nat)(v:zO):Nat→zO:=match d with
 |some d=>wT t d v
 |none=>t
inductive yG where
 |alts (l:List (Bool×zO×yO))
 |call (X:Type) (x:Option X) (f:X→zO×yO)
 |call2 (X Y:Type) (x:Option (X⊕Y)) (f:X→zO×yO) (g:Y→zO×yO)
def yG.stuck:yG:=.alts []
def yG.one (v:zO):yG:=.alts [(true,v,[])]
def yG.when (c:Bool)(v:zO):yG:=.alts [(c,v,[])]
def K6 {R:Type}(K:zO→yO→Option R):List (Bool×zO×yO)→Option R
 |[]=>none
 |(c,v,u)::l=>bif c then K v u else K6 K l
def yG.elim {R}(s:yG)(K:zO→yO→Option R):Option R:=match s with
 |.alts l=>K6 K l
 |.call _ x f=>x.bind fun r=>K (f r).1 (f r).2
 |.call2 _ _ x f g=>x.bind fun r=>match r with
  |.inl a=>K (f a).1 (f a).2
  |.inr b=>K (g b).1 (g b).2
def sZ:Value→zR
 |.int k n=>.int k n
 |.bool b=>.bool b
 |.slice none 0 0=>.nsl
 |.pointer none=>.nilp
 |.nilFunc=>.nilf
 |.map none=>.nilm
 |_=>.undef
def ta:Value→Bool
 |.agg _|.tuple _=>false
 |_=>true
def K7:Value→zO
 |.agg cs=>bif cs.toList.all ta then .agg (cs.toList.map sZ) else .undef
 |.tuple _=>.undef
 |v=>.c (sZ v)
def St.ev (st:St):Operand→zO
 |.tmp t=>st.t t
 |.const v=>K7 v
 |.global _=>.undef
 |.func f=>.c (.fn f [])
def cellsOf (sh:Bool):(t:Ty)→t.den→List zR
 |.int k,n=>[.int k n]
 |.bool,b=>[.bool b]
 |.sl t,xs=>[.fsl sh t xs]
 |.pair a b,p=>cellsOf sh a p.1++cellsOf sh b p.2
def K8 (k:IntKind):Nat→zR→Option Int
 |0,.int j n=>bif dv j k then some n else none
 |_,_=>none
def K9:Nat→zR→Option Bool
 |0,.bool b=>some b
 |_,_=>none
def La (t:Ty):Nat→zR→Option (List t.den)
 |0,.fsl true s xs=>eh s t xs
 |0,.nsl=>some []
 |_,_=>none
def oe:(t:Ty)→t.den→Nat→zR→Option t.den
 |.int k,_,off,v=>K8 k off v
 |.bool,_,off,v=>K9 off v
 |.sl t,_,off,v=>La t off v
 |.pair a b,p,off,v=>bif Nat.blt off a.size then(match oe a p.1 off v with|some x=>some (x,p.2)|none=>none)
   else(match oe b p.2 (off-a.size) v with|some y=>some (p.1,y)|none=>none)
def og (t:Ty):t.den→Nat→List zR→Option t.den
 |x,_,[]=>some x
 |x,off,v::vs=>match oe t x off v with
  |some y=>og t y (off+1) vs
  |none=>none
def Cl (t:Ty)(vs:List zR):Option t.den:=bif Nat.beq vs.length t.size then og t t.dflt 0 vs else none
def qQ {α:Type}(xs:List α)(lo n:Nat):List α:=(xs.drop lo).take n
def fz {α}(xs:List α):Option (Nat×Nat)→List α
 |none=>xs
 |some (lo,n)=>qQ xs lo n
def ek:List (Option Ty)→Option Ty
 |[]=>none
 |[t]=>t
 |a::l=>match a,ek l with
  |some x,some y=>some (.pair x y)
  |_,_=>none
def Gp (P:Program):Nat→TypeId→Option Ty
 |0,_=>none
 |d+1,t=>match P.underlying t with
  |some (.int k)=>some (.int k)
  |some .bool=>some .bool
  |some (.slice e)=>(Gp P d e).map .sl
  |some (.struct fs)=>ek (fs.toList.map fun f=>Gp P d f.type)
  |some (.array n e)=>ek (List.replicate n (Gp P d e))
  |_=>none
def eu:Ty→List Value
 |.int k=>[.int k 0]
 |.bool=>[.bool false]
 |.sl _=>[.slice none 0 0]
 |.pair a b=>eu a++eu b
def Lb:Value→Value→Bool
 |.int j a,.int k b=>dv j k&&decide (a=b)
 |.bool a,.bool b=>bif a then b else !b
 |.slice none 0 0,.slice none 0 0=>true
 |_,_=>false
def Cm:List Value→List Value→Bool
 |[],[]=>true
 |a::l,b::m=>Lb a b&&Cm l m
 |_,_=>false
def fU (P:Program)(e:TypeId):Option Ty:=match Gp P 8 e,P.info? e with
 |some t,some i=>match i.zero with
  |some z=>bif Nat.beq i.size t.size&&Cm z.cells.toList (eu t) then some t else none
  |none=>none
 |_,_=>none
def jD (P:Program)(t:TypeId):Option Bool:=match P.underlying t with
 |some (.struct _)|some (.array _ _)=>some true
 |some _=>some false
 |none=>none
def zeroCells (P:Program)(t:TypeId):Option (List zR):=match P.info? t with
 |some i=>match i.zero with
  |some v=>bif Nat.beq v.cells.size i.size&&v.cells.toList.all ta then some (v.cells.toList.map sZ) else none
  |none=>none
 |none=>none
def mJ (agg:Option Bool)(vs:List zR):Option zO:=match agg with
 |some true=>some (.agg vs)
 |some false=>match vs with
  |[v]=>some (.c v)
  |_=>none
 |none=>none
def yG.ofO:Option zO→yG
 |some v=>.one v
 |none=>.stuck
def iQ (cells:List zR)(off n:Nat):Option (List zR):=
 bif Nat.ble (off+n) cells.length then some ((cells.drop off).take n) else none
def tc (cells:List zR)(off:Nat):List zR→Option (List zR)
 |[]=>some cells
 |v::vs=>bif Nat.blt off cells.length then tc (cells.set off v) (off+1) vs else none
def kI:zO→Option (List zR)
 |.c v=>some [v]
 |.agg vs=>some vs
 |_=>none
def td (f:(n:Nat)→BitVec n→BitVec n→BitVec n)(k:IntKind)(x y:Int):Int:=
 k.wrap (f k.bits (BitVec.ofInt k.bits x) (BitVec.ofInt k.bits y)).toNat
def VH (op:BinOp)(k:IntKind)(x y:Int):yG:=match op with
 |.add=>.one (.c (.int k (k.wrap (x+y))))
 |.sub=>.one (.c (.int k (k.wrap (x-y))))
 |.mul=>.one (.c (.int k (k.wrap (x*y))))
 |.quo=>.when (!decide (y=0)) (.c (.int k (k.wrap (x.tdiv y))))
 |.rem=>.when (!decide (y=0)) (.c (.int k (x.tmod y)))
 |.and=>.one (.c (.int k (td (fun _ a b=>a&&&b) k x y)))
 |.or=>.one (.c (.int k (td (fun _ a b=>a|||b) k x y)))
 |.xor=>.one (.c (.int k (td (fun _ a b=>a^^^b) k x y)))
 |.andNot=>.one (.c (.int k (td (fun _ a b=>a&&&~~~b) k x y)))
 |.eql=>.one (.c (.bool (decide (x=y))))
 |.neq=>.one (.c (.bool (!decide (x=y))))
 |.lss=>.one (.c (.bool (decide (x<y))))
 |.leq=>.one (.c (.bool (decide (x≤y))))
 |.gtr=>.one (.c (.bool (decide (x>y))))
 |.geq=>.one (.c (.bool (decide (x≥y))))
 |_=>.stuck
def VI (op:BinOp)(k:IntKind)(x y:Int):yG:=match op with
 |.shl=>.when (!decide (y<0)) (.c (.int k (k.wrap (x*2^(min y.toNat k.bits)))))
 |.shr=>.when (!decide (y<0)) (.c (.int k (x.fdiv (2^(min y.toNat k.bits)))))
 |_=>.stuck
def j5 (a b:Bool):Bool:=bif a then b else !b
def dw:List zR→List zR→Option Bool
 |[],[]=>some true
 |[.int j a],[.int k b]=>bif dv j k then some (decide (a=b)) else none
 |.int j a::l,.int k b::m=>bif dv j k then(match dw l m with|some r=>some (decide (a=b)&&r)|none=>none) else none
 |[.bool a],[.bool b]=>some (j5 a b)
 |.bool a::l,.bool b::m=>match dw l m with|some r=>some (j5 a b&&r)|none=>none
 |_,_=>none
def Gq (P:Program)(rec:TypeId→Option (List (Option IntKind))):Nat→List Field→Option (List (Option IntKind))
 |_,[]=>some []
 | i, f :: l => bif Nat.beq f.offset i && !(f.name == "_") then (match rec f.type,Gq P rec (i+P.cellsOf f.type) l with
  |some a,some r=>bif Nat.beq a.length (P.cellsOf f.type)&&Nat.blt 0 a.length then some (a++r) else none
  |_,_=>none) else none
def tf {α:Type}:Nat→List α→List α
 |0,_=>[]
 |n+1,l=>l++tf n l
def wo (P:Program):Nat→TypeId→Option (List (Option IntKind))
 |0,_=>none
 |d+1,t=>match P.underlying t with
  |some (.int k)=>some [some k]
  |some .bool=>some [none]
  |some (.struct fs)=>Gq P (wo P d) 0 fs.toList
  |some (.array n e)=>match wo P d e with
   |some a=>bif Nat.beq a.length (P.cellsOf e)&&Nat.blt 0 a.length then some (tf n a) else none
   |none=>none
  |_=>none
def VJ (P:Program)(t:TypeId):Option (List (Option IntKind)):=match P.underlying t with
 |some (.struct _)=>wo P 8 t
 |_=>none
def dM:List (Option IntKind)→List zR→Bool
 |[],[]=>true
 |some k::l,.int j _::cs=>dv j k&&dM l cs
 |none::l,.bool _::cs=>dM l cs
 |_,_=>false
def Gr (P:Program)(t:TypeId)(a b:List zR):Option Bool:=match VJ P t with
 |some ks=>bif dM ks a&&dM ks b then dw a b else none
 |none=>none
def Lc (d:TypeDesc)(y:Operand)(x:zR):Option Bool:=match d,y,x with
 |.slice _,.const (.slice none 0 0),.nsl=>some true
 |.slice _,.const (.slice none 0 0),.nfl _ _ _=>some false
 |.pointer _,.const (.pointer none),.nilp=>some true
 |.pointer _,.const (.pointer none),.ptr _ _|.pointer _,.const (.pointer none),.eptr _ _ _|.pointer _,.const (.pointer none),.fptr _ _ _ _=>some false
 |.func _ _ _,.const .nilFunc,.nilf=>some true
 |.func _ _ _,.const .nilFunc,.fn _ _=>some false
 |.map _ _,.const (.map none),.nilm=>some true
 |.map _ _,.const (.map none),.map _=>some false
 |_,_,_=>none
def Cn:BinOp→Bool→Bool
 |.eql,b=>b
 |_,b=> !b
def VK:BinOp→Bool
 |.eql|.neq=>true
 |_=>false
def VL:Operand→Bool
 |.const (.slice none 0 0)|.const (.pointer none)|.const .nilFunc|.const (.map none)=>true
 |_=>false
def kJ (xs:List Int):List UInt8:=xs.map fun n=>UInt8.ofNat n.toNat
def tg (xs ys:List Int):Bool:=kJ xs==kJ ys
def Gs (P:Program)(t:TypeId):Bool:=match P.underlying t with
 |some .bool=>true
 |_=>false
def Ld (P:Program)(eqT:TypeId→Bool)(op:BinOp)(ew:TypeId)(ox oy:Operand)(x y:zO):yG:=match op,x,y with
 |.shl,.c (.int k a),.c (.int _ b)|.shr,.c (.int k a),.c (.int _ b)=>VI op k a b
 |_,.c (.int k a),.c (.int j b)=>bif dv k j then VH op k a b else .stuck
 |.eql,.c (.bool a),.c (.bool b)=>bif Gs P ew then .one (.c (.bool (j5 a b))) else .stuck
 |.neq,.c (.bool a),.c (.bool b)=>bif Gs P ew then .one (.c (.bool (!j5 a b))) else .stuck
 |.eql,.c (.str a),.c (.str b)=>.one (.c (.bool (tg a b)))
 |.neq,.c (.str a),.c (.str b)=>.one (.c (.bool (!tg a b)))
 |.eql,.agg a,.agg b=>bif eqT ew then(match Gr P ew a b with|some r=>.one (.c (.bool r))|none=>.stuck) else .stuck
 |.neq,.agg a,.agg b=>bif eqT ew then(match Gr P ew a b with|some r=>.one (.c (.bool (!r)))|none=>.stuck) else .stuck
 |_,_,_=>.stuck
def Le (op:UnOp)(x:zO):yG:=match op,x with
 |.not,.c (.bool b)=>.one (.c (.bool (!b)))
 |.neg,.c (.int k n)=>.one (.c (.int k (k.wrap (0-n))))
 |_,_=>.stuck
def fV (h:Hp):zR→Option ((t:Ty)×List t.den)
 |.fsl _ t xs=>some ⟨t,xs⟩
 |.osl id r=>match h id with
  |some (.arr _ t xs)=>some ⟨t,fz xs r⟩
  |some (.mat _ xs)=>match r with
   |none=>some ⟨.sl (.int .i64),xs⟩
   |some _=>none
  |_=>none
 |.mrow id i ver=>match h id with
  |some (.mat v xs)=>bif Nat.beq v ver then some ⟨.int .i64,xs.getD i []⟩ else none
  |_=>none
 |_=>none
def wq (h:Hp):zR→Option (List Int)
 |.nsl=>some []
 |c=>match fV h c with
  |some ⟨.int .u8,xs⟩=>some xs
  |_=>none
def wu (h:Hp)(v:zR):Option Nat:=match v with
 |.nsl=>some 0
 |.bsl _ _ n=>some n
 |v=>match fV h v with
  |some ⟨_,xs⟩=>some xs.length
  |none=>none
def kK (h:Hp):zR→Option (zR×yO)
 |.osl id r=>match h id with
  |some (.arr _ t xs)=>some (.fsl true t (fz xs r),[(id,.arr false t xs)])
  |some (.mat _ xs)=>match r with
   |none=>some (.fsl true (.sl (.int .i64)) xs,[(id,.arr false (.sl (.int .i64)) xs)])
   |some _=>none
  |_=>none
 |.mrow _ _ _=>none
 |v=>some (v,[])
def j6 (h:Hp):List zR→Option (List zR×yO)
 |[]=>some ([],[])
 |v::vs=>match kK h v,j6 h vs with
  |some (v,u),some (vs,us)=>some (v::vs,u++us)
  |_,_=>none
def zD (i:Int)(n:Nat):Bool:=decide (0≤i)&&decide (i<(n:Int))
def wv (i:Int)(mk:Nat→zR):Nat→Nat→List (Bool×zO×yO)
 |_,0=>[]
 |j,n+1=>(decide (i=(j:Int)),.c (mk j),[])::wv i mk (j+1) n
def Co (P:Program)(t:TypeId)(cells:List zR)(off:Nat):yG:=.ofO ((iQ cells off (P.cellsOf t)).bind (mJ (jD P t)))
def wx (P:Program)(h:Hp)(t:TypeId)(a:zO):yG:=
 match a with
 |.c (.ptr id off)=>match h id with
  |some (.box _ cells)=>Co P t cells off
  |some (.robox cells)=>Co P t cells off
  |_=>.stuck
 |.c (.fptr sh ty x off)=>Co P t (cellsOf sh ty x) off
 |.c (.eptr id i off)=>match h id with
  |some (.arr _ ty xs)=>Co P t (cellsOf true ty (xs.getD i ty.dflt)) off
  |_=>.stuck
 |.c (.mptr id i)=>match h id with
  |some (.mat ver _)=>match jD P t with|some false=>.one (.c (.mrow id i ver))|_=>.stuck
  |_=>.stuck
 |.c (.meptr id i j ver)=>match h id with
  |some (.mat v xs)=>bif Nat.beq v ver then(match jD P t with|some false=>.one (.c (.int .i64 ((xs.getD i []).getD j 0)))|_=>.stuck) else .stuck
  |_=>.stuck
 |_=>.stuck
def wy (P:Program)(h:Hp)(t:TypeId)(a v:zO):yG:=
 match kI v with
 |none=>.stuck
 | some vs => bif Nat.beq vs.length (P.cellsOf t) && Nat.blt 0 vs.length then (match a with
  |.c (.ptr id off)=>match h id with
   |some (.box true cells)=>match tc cells off vs with
    |some cells=>.alts [(true,.undef,[(id,.box true cells)])]
    |none=>.stuck
   |_=>.stuck
  |.c (.eptr id i off)=>match h id,j6 h vs with
   |some (.arr true ty xs),some (vs,u)=>match og ty (xs.getD i ty.dflt) off vs with
    |some x=>bif u.any (fun p=>Nat.beq p.1 id) then .stuck else .alts [(true,.undef,u++[(id,.arr true ty (xs.set i x))])]
    |none=>.stuck
   |_,_=>.stuck
  |.c (.mptr id i)=>match h id,v with
   |some (.mat ver xs),.c (.osl jd none)=>match h jd with
    |some (.arr true (.int .i64) ys)=>.alts [(true,.undef,[(jd,.gone),(id,.mat (ver+1) (xs.set i ys))])]
    |_=>.stuck
   |some (.pmat ver xs n),.c (.osl jd none)=>match h jd with
    |some (.arr true (.int .i64) ys)=>.alts [(Nat.beq i xs.length,.undef,[(jd,.gone),(id,.pmat (ver+1) (xs++[ys]) n)])]
    |_=>.stuck
   |_,_=>.stuck
  |.c (.meptr id i j ver)=>match h id,v with
   |some (.mat v xs),.c (.int .i64 n)=>bif Nat.beq v ver then .alts [(true,.undef,[(id,.mat v (xs.set i ((xs.getD i []).set j n)))])] else .stuck
   |_,_=>.stuck
  |_=>.stuck) else .stuck
def Lf (P:Program)(s:TypeId)(a:zO)(f:Nat):yG:=match P.underlying s with
 |some (.struct fs)=>match fs[f]? with
  | some fd => bif Nat.beq (P.cellsOf fd.type) 0 then .stuck else (match a with
   |.c (.ptr id off)=>.one (.c (.ptr id (off+fd.offset)))
   |.c (.eptr id i off)=>.one (.c (.eptr id i (off+fd.offset)))
   |.c (.fptr sh t x off)=>.one (.c (.fptr sh t x (off+fd.offset)))
   |_=>.stuck)
  |none=>.stuck
 |_=>.stuck
def wz (P:Program)(h:Hp)(t:TypeId)(x i:zO):yG:=match P.underlying t,x,i with
 |some (.slice e),.c v,.c (.int _ i)=>match v with
  |.fsl sh ty xs=>bif Nat.beq (P.cellsOf e) ty.size then .when (zD i xs.length) (.c (.fptr sh ty (xs.getD i.toNat ty.dflt) 0)) else .stuck
  |.osl id r=>match h id with
   | some (.arr _ ty xs) => bif Nat.beq (P.cellsOf e) ty.size then (match r with
    |none=>.when (zD i xs.length) (.c (.eptr id i.toNat 0))
    |some (lo,n)=>.when (zD i n) (.c (.eptr id (lo+i.toNat) 0))) else .stuck
   | some (.mat _ xs) => bif Nat.beq (P.cellsOf e) 1 then (match r with
    |none=>.when (zD i xs.length) (.c (.mptr id i.toNat))
    |some _=>.stuck) else .stuck
   | some (.pmat _ _ n) => bif Nat.beq (P.cellsOf e) 1 then (match r with
    |none=>.when (zD i n) (.c (.mptr id i.toNat))
    |some _=>.stuck) else .stuck
   |_=>.stuck
  | .mrow id j ver => bif Nat.beq (P.cellsOf e) 1 then (match h id with
   |some (.mat v xs)=>bif Nat.beq v ver then .when (zD i (xs.getD j []).length) (.c (.meptr id j i.toNat ver)) else .stuck
   |_=>.stuck) else .stuck
  |_=>.stuck
 |some (.array n e),.c (.ptr id off),.c (.int _ i)=>bif Nat.beq (P.cellsOf e) 0 then .stuck else .alts (wv i (fun j=>.ptr id (off+j*P.cellsOf e)) 0 n)
 |some (.array n e),.c (.eptr id q off),.c (.int _ i)=>bif Nat.beq (P.cellsOf e) 0 then .stuck else .alts (wv i (fun j=>.eptr id q (off+j*P.cellsOf e)) 0 n)
 |some (.array n e),.c (.fptr sh t x off),.c (.int _ i)=>bif Nat.beq (P.cellsOf e) 0 then .stuck else .alts (wv i (fun j=>.fptr sh t x (off+j*P.cellsOf e)) 0 n)
 |_,_,_=>.stuck
def Lg (P:Program)(t:TypeId)(x i:zO):yG:=match P.underlying t,x,i with
 |some (.array n e),.agg cs,.c (.int _ i)=>bif Nat.beq (P.cellsOf e) 1&&(match jD P e with|some false=>true|_=>false)&&Nat.beq cs.length n
   then .alts (wv i (fun j=>cs.getD j .undef) 0 n) else .stuck
 |_,_,_=>.stuck
def Lh (P:Program)(s:TypeId)(x:zO)(f:Nat):yG:=match P.underlying s,x with
 |some (.struct fs),.agg cs=>match fs[f]? with
  |some fd=>match iQ cs fd.offset (P.cellsOf fd.type) with
   |some vs=>.ofO (mJ (jD P fd.type) vs)
   |none=>.stuck
  |none=>.stuck
 |_,_=>.stuck
def Cp (place:Nat→Option (Nat×Nat))(cells:List zR):List (Nat×zO)→Option (List zR)
 |[]=>some cells
 |(i,v)::rest=>match place i,kI v with
  | some (off, size), some vs => bif Nat.beq vs.length size && Nat.ble (off + size) cells.length then (match tc cells off vs with
   |some cells=>Cp place cells rest
   |none=>none) else none
  |_,_=>none
def Lj (P:Program)(t:TypeId)(parts:List (Nat×zO)):yG:=match zeroCells P t with
 |none=>.stuck
 |some zero=>match P.underlying t with
  | some (.struct fs) => bif fs.toList.all (fun f => (P.info? f.type).isSome) then (match Cp (fun i=>(fs[i]?).map fun f=>(f.offset,P.cellsOf f.type)) zero parts with
   |some cells=>.one (.agg cells)
   |none=>.stuck) else .stuck
  | some (.array _ e) => bif (P.info? e).isSome then (match Cp (fun i=>some (i*P.cellsOf e,P.cellsOf e)) zero parts with
   |some cells=>.one (.agg cells)
   |none=>.stuck) else .stuck
  |_=>.stuck
def tj (h:Hp):zO→Option (List Int×yO)
 |.c (.osl jd none)=>match h jd with
  |some (.arr true (.int .i64) ys)=>some (ys,[(jd,.gone)])
  |_=>none
 |.c .nsl=>some ([],[])
 |_=>none
def tl (h:Hp)(rows:List (List Int)):List (Nat×zO)→Option (List (List Int)×yO)
 |[]=>some (rows,[])
 |(i,v)::rest=>match tj h v with
  |some (r,u)=>match tl h (rows.set i r) rest with
   |some (rows,us)=>some (rows,u++us)
   |none=>none
  |none=>none
def mK (h:Hp)(t:Ty)(xs:List t.den):List (Nat×zO)→Option (List t.den×yO)
 |[]=>some (xs,[])
 |(i,v)::rest=>match kI v with
  |some vs=>match j6 h vs with
   |some (vs,u)=>match Cl t vs with
    |some x=>match mK h t (xs.set i x) rest with
     |some (xs,us)=>some (xs,u++us)
     |none=>none
    |none=>none
   |none=>none
  |none=>none
def oh:List Nat→Bool
 |[]=>true
 |a::l=> !(l.any (Nat.beq a))&&oh l
def w6 (P:Program)(mat:Bool)(nm:Nat)(h:Hp)(t:TypeId)(n:Nat)(parts:List (Nat×zO)):yG:=
 match P.underlying t,h nm with
 |some (.slice e),none=>bif Nat.ble (n*P.cellsOf e) 16777216 then
   (bif mat then (match fU P e,tl h (List.replicate n []) parts with
    |some (.sl (.int .i64)),some (rows,u)=>bif oh (u.map (·.1))&&parts.all (fun p=>Nat.blt p.1 n) then .alts [(true,.c (.osl nm none),u++[(nm,.mat 0 rows)])] else .stuck
    |_,_=>.stuck)
   else (match fU P e with
    |some ty=>match mK h ty (List.replicate n ty.dflt) parts with
     |some (xs,u)=>bif parts.all (fun p=>Nat.blt p.1 n) then .alts [(true,.c (.osl nm none),u++[(nm,.arr true ty xs)])] else .stuck
     |none=>.stuck
    |none=>.stuck)) else .stuck
 |_,_=>.stuck
def w7 (P:Program)(mat:Bool)(nm:Nat)(h:Hp)(t:TypeId)(l c:zO):yG:=
 match P.underlying t,h nm,l,c with
 |some (.slice e),none,.c (.int .i64 l),.c (.int .i64 c)=>
   let ok:=decide (0≤l)&&decide (l≤c)&&decide (c*(P.bytesOf e:Int)≤140737488355328)&&decide (c≤140737488355328)
   bif mat then (match fU P e with
    |some (.sl (.int .i64))=>.alts [(ok,.c (.osl nm none),[(nm,.mat 0 (List.replicate l.toNat []))])]
    |_=>.stuck)
   else (match fU P e with
    |some ty=>.alts [(ok,.c (.osl nm none),[(nm,.arr true ty (List.replicate l.toNat ty.dflt))])]
    |none=>.stuck)
 |_,_,_,_=>.stuck
def Cq (P:Program)(t:TypeId):Bool:=match P.underlying t with
 | some (.map k e) => (match P.underlying k,(P.info? e).bind (·.zero) with
  |some (.int .i64),some (.bool false)=>true
  |_,_=>false)
 |_=>false
def w8 (P:Program)(nm:Nat)(h:Hp)(t:TypeId):yG:=
 match h nm with
 |none=>bif Cq P t then .alts [(true,.c (.map nm),[(nm,.imap [])])] else .stuck
 |some _=>.stuck
def w9 (P:Program)(h:Hp)(t:TypeId)(x i:zO):yG:=
 match x,i with
 | .c (.map id), .c (.int .i64 n) => (match h id with
  |some (.imap cg)=>bif Cq P t then .one (.c (.bool ((cg.lookup n).getD false))) else .stuck
  |_=>.stuck)
 |_,_=>.stuck
def xa (P:Program)(h:Hp)(t:TypeId)(x i v:zO):yG:=
 match x,i,v with
 | .c (.map id), .c (.int .i64 n), .c (.bool b) => (match h id with
  |some (.imap cg)=>bif Cq P t then .alts [(true,.undef,[(id,.imap ((n,b)::cg))])] else .stuck
  |_=>.stuck)
 |_,_,_=>.stuck
def qe (len:Nat)(lo hi:Option zO):Option (Bool×Nat×Nat):=
 match lo,hi with
 |none,none=>some (true,0,len)
 |some (.c (.int _ l)),none=>some (decide (0≤l)&&decide (l≤(len:Int)),l.toNat,len)
 |none,some (.c (.int _ u))=>some (decide (0≤u)&&decide (u≤(len:Int)),0,u.toNat)
 |some (.c (.int _ l)),some (.c (.int _ u))=>some (decide (0≤l)&&decide (l≤u)&&decide (u≤(len:Int)),l.toNat,u.toNat)
 |_,_=>none
def tm:List zR→Option (List Int)
 |[]=>some []
 |.int .i64 n::l=>match tm l with|some r=>some (n::r)|none=>none
 |_=>none
def Lk (len:Nat):Option (Nat×Nat)→Option zO→Nat
 |none,_=>len
 |some p,none=>p.2
 |some p,some _=>len-p.1
def xc (P:Program)(h:Hp)(t:TypeId)(x:zO)(lo hi mx:Option zO):yG:=
 match P.underlying t,mx,x with
 | some (.slice e), none, .c (.fsl sh ty xs) => bif Nat.beq (P.cellsOf e) ty.size then (match qe xs.length lo hi with
  | some (ok, l, u) => .when ok (.c (.fsl sh ty (match lo,hi with
   |none,none=>xs
   |some _,none=>xs.drop l
   |none,some _=>xs.take u
   |some _,some _=>qQ xs l (u-l))))
  |none=>.stuck) else .stuck
 |some (.slice e),none,.c (.osl id r)=>match h id with
  | some (.arr _ ty xs) => bif Nat.beq (P.cellsOf e) ty.size then (match qe (Lk xs.length r hi) lo hi with
   |some (ok,l,u)=>.when ok (.c (.osl id (some ((match r with|none=>0|some p=>p.1)+l,u-l))))
   |none=>.stuck) else .stuck
  |_=>.stuck
 |some (.slice e),some (.c (.int _ m)),.c (.osl id none)=>match h id with
  | some (.arr _ ty xs) => bif Nat.beq (P.cellsOf e) ty.size then (match lo,hi,qe xs.length lo hi with
   |some _,some _,some (ok,_,u)=>.when (ok&&decide ((u:Int)≤m)&&decide (m≤(xs.length:Int))) (.c .undef)
   |_,_,_=>.stuck) else .stuck
  |_=>.stuck
 | some (.array n e), none, .c (.ptr id off) => bif Nat.beq (P.cellsOf e) 1 then (match h id with
  |some (.box own cells)=>match lo,hi with
   |none,none=>bif Nat.ble (off+n) cells.length then .one (.c (.bsl id off n)) else .stuck
   |_,_=>match iQ cells off n with
    |some vs=>match tm vs,qe n lo hi with
     |some ns,some (ok,l,u)=>.alts [(ok,.c (.fsl true (.int .i64) (qQ ns l (u-l))),bif own then[(id,.box false cells)] else[])]
     |_,_=>.stuck
    |none=>.stuck
  |_=>.stuck) else .stuck
 |_,_,_=>.stuck
def om (h:Hp)(t:Ty):zR→Option (List t.den×yO)
 |.nsl=>some ([],[])
 |.fsl sh s xs=>bif sh||s.flat then(eh s t xs).map (·,[]) else none
 |.nfl sh s xs=>bif sh||s.flat then(eh s t xs).map (·,[]) else none
 |.osl id r=>match h id with
  |some (.arr _ s xs)=>(eh s t (fz xs r)).map (·,[])
  |_=>none
 |_=>none
def xd (P:Program)(mat:Bool)(nm:Nat)(h:Hp)(t:TypeId)(b x:zO):yG:=
 match P.underlying t,h nm,b,x with
 |some (.slice e),none,.c b,.c x=>match fU P e with
  |none=>.stuck
  |some ty=>
   let room (n:Nat):Bool:=Nat.ble (n*P.bytesOf e) 140737488355328&&Nat.ble n 140737488355328
   bif mat then (match ty,b,x with
    |.sl (.int .i64),.osl id none,.osl jd none=>match h id,h jd with
     |some (.mat _ xs),some (.mat _ ys)=>bif Nat.beq id jd then .stuck else
       .alts [(room (xs.length+ys.length),.c (.osl nm none),[(id,.gone),(jd,.gone),(nm,.mat 0 (xs++ys))])]
     |_,_=>.stuck
    |_,_,_=>.stuck)
   else (match b with
    |.nsl=>match om h ty x with
     |some (ys,u)=>.alts [(room ys.length,.c (.osl nm none),u++[(nm,.arr true ty ys)])]
     |none=>.stuck
    |.osl id r=>match h id with
     |some (.arr true s ez)=>match eh s ty (fz ez r),om h ty x with
      | some xs, some (ys, u) => (match r with
       | some (0, _) | none => (bif (match x with | .osl jd _ => Nat.beq id jd | _ => false) then (match r,x,eh s ty ez with
         |some (0,i),.osl _ (some (j,m)),some zs=>.alts [(Nat.ble i j,.c (.osl nm (some (0,i+m))),[(id,.gone),(nm,.arr true ty (zs.take i++qQ zs j m++zs.drop (i+m)))])]
         |_,_,_=>.stuck) else
         .alts [(room (xs.length+ys.length),.c (.osl nm none),u++[(id,.gone),(nm,.arr true ty (xs++ys))])])
       |_=>.stuck)
      |_,_=>.stuck
     |_=>.stuck
    |_=>.stuck)
 |_,_,_,_=>.stuck
def tn (xs:List Int):Nat→List zR→List zR
 |_,[]=>[]
 |i,.int .i64 n::cs=>.int .i64 (bif Nat.blt i xs.length then xs.getD i 0 else n)::tn xs (i+1) cs
 |i,c::cs=>c::tn xs (i+1) cs
def xe (h:Hp)(d s:zO):yG:=match d,s with
 |.c (.bsl id off n),.c s=>match h id,(match s with|.nsl=>some ⟨.int .i64,[]⟩|s=>fV h s:Option ((t:Ty)×List t.den)) with
  |some (.box true cells),some ⟨.int .i64,ys⟩=>match iQ cells off n with
   |some vs=>match tm vs with
    |some _=>.alts [(true,.c (.int .i64 ((min ys.length n:Nat):Int)),[(id,.box true (cells.take off++tn ys 0 vs++cells.drop (off+n)))])]
    |none=>.stuck
   |none=>.stuck
  |_,_=>.stuck
 |_,_=>.stuck
def Gt (P:Program)(h:Hp)(t:TypeId)(id lo n:Nat):yG:=match P.underlying t,h id with
 |some (.slice e),some (.arr true s xs)=>match fU P e with
  |some ty=>bif mI ty s then .alts [(true,.undef,[(id,.arr true s (xs.take lo++List.replicate n s.dflt++xs.drop (lo+n)))])] else .stuck
  |none=>.stuck
 |_,_=>.stuck
def Gu (lt:Bool):List zO→yG
 |[.c (.int k x),.c (.int _ y)]=>.one (.c (.int k (bif lt then(bif decide (y<x) then y else x) else(bif decide (y>x) then y else x))))
 |[.c (.int k x),.c (.int _ y),.c (.int _ z)]=>
  let m (a b:Int):Int:=bif lt then(bif decide (b<a) then b else a) else(bif decide (b>a) then b else a)
  .one (.c (.int k (m (m x y) z)))
 |_=>.stuck
abbrev Gv:=Nat→Nat→Nat→List zO→Hp→yG
inductive CS where
 |int (k:IntKind)|bool|dat (sh:Bool) (t:Ty)|lit (v:zR)
inductive VS where
 |c (x:CS)|agg (l:List CS)
inductive OS where
 |box (own:Bool) (l:List CS)|robox (l:List CS)|arr (own:Bool) (t:Ty)|mat|pmat|imap
abbrev SL:List CS→Type
 |[]=>Unit
 |.int _::l=>Int×SL l
 |.bool::l=>Bool×SL l
 |.dat _ t::l=>List t.den×SL l
 |.lit _::l=>SL l
def VS.cells:VS→List CS
 |.c x=>[x]
 |.agg l=>l
abbrev SV:List (Nat×VS)→Type
 |[]=>Unit
 |s::l=>SL s.2.cells×SV l
abbrev OS.den:OS→Type
 |.box _ l=>SL l
 |.robox l=>SL l
 |.arr _ t=>List t.den
 |.mat=>List (List Int)
 |.pmat=>List (List Int)×Nat
 |.imap=>List (Int×Bool)
abbrev OL:List OS→Type
 |[]=>Unit
 |o::l=>o.den×OL l
structure zH where
 slots:List (Nat×VS)
 objs:List OS
 grow:List (Nat×Option Nat×Ty×Bool)
abbrev zH.den (S:zH):Type:=SV S.slots×OL S.objs
def Gw:List Nat→List Nat→Bool
 |[],[]=>true
 |a::l,b::m=>Nat.beq a b&&Gw l m
 |_,_=>false
def Ll:zR→zR→Bool
 |.undef,_=>true
 |.nsl,.nsl|.nilp,.nilp|.nilf,.nilf|.nilm,.nilm=>true
 |.osl a none,.osl b none=>Nat.beq a b
 |.bsl a i n,.bsl b j m=>Nat.beq a b&&Nat.beq i j&&Nat.beq n m
 |.ptr a i,.ptr b j=>Nat.beq a b&&Nat.beq i j
 |.fn f c,.fn g d=>Nat.beq f g&&Gw c d
 |.map a,.map b=>Nat.beq a b
 |_,_=>false
def iR:(l:List CS)→List zR→Option (SL l)
 |[],[]=>some ()
 |.int k::l,.int j n::vs=>bif dv j k then(match iR l vs with|some d=>some (n,d)|none=>none) else none
 |.bool::l,.bool b::vs=>match iR l vs with|some d=>some (b,d)|none=>none
 | .dat sh t :: l, .fsl Cr s xs :: vs => bif Cr || !sh then (match eh s t xs,iR l vs with
  |some xs,some d=>some (xs,d)
  |_,_=>none) else none
 |.dat _ _::l,.nsl::vs=>match iR l vs with|some d=>some ([],d)|none=>none
 |.lit c::l,v::vs=>bif Ll c v then iR l vs else none
 |_,_=>none
def Lm (v:VS)(a:zO):Option (SL v.cells):=match v,a with
 |.c x,.c y=>iR [x] [y]
 |.agg l,.agg vs=>iR l vs
 |_,_=>none
def Gx (o:OS)(x:Obj):Option o.den:=match o,x with
 |.box own l,.box j7 cells=>bif own==j7 then iR l cells else none
 |.robox l,.robox cells=>iR l cells
 |.arr own t,.arr j7 s xs=>bif own==j7 then eh s t xs else none
 |.mat,.mat _ xs=>some xs
 |.pmat,.pmat _ xs n=>some (xs,n)
 |.imap,.imap cg=>some cg
 |_,_=>none
def lL:(l:List CS)→SL l→List zR
 |[],_=>[]
 |.int k::l,d=>.int k d.1::lL l d.2
 |.bool::l,d=>.bool d.1::lL l d.2
 |.dat sh t::l,d=>.fsl sh t d.1::lL l d.2
 |.lit c::l,d=>c::lL l d
def Ln (v:VS)(d:SL v.cells):zO:=match v,d with
 |.c x,d=>match lL [x] d with|c::_=>.c c|[]=>.undef
 |.agg l,d=>.agg (lL l d)
def Gy (o:OS)(d:o.den):Obj:=match o,d with
 |.box own l,d=>.box own (lL l d)
 |.robox l,d=>.robox (lL l d)
 |.arr own t,xs=>.arr own t xs
 |.mat,xs=>.mat 0 xs
 |.pmat,d=>.pmat 0 d.1 d.2
 |.imap,cg=>.imap cg
def xf:(l:List (Nat×VS))→SV l→List (Nat×zO)
 |[],_=>[]
 |s::l,d=>(s.1,Ln s.2 d.1)::xf l d.2
def oq:(l:List OS)→OL l→List Obj
 |[],_=>[]
 |o::l,d=>Gy o d.1::oq l d.2
def zP (base:Nat)(S:zH)(d:S.den):St:=
  { t:=fun n=>match(xf S.slots d.1).lookup n with|some v=>v|none=>.undef,
    h:=fun n=>bif Nat.ble base n then(oq S.objs d.2)[n-base]? else none}
inductive Ex where
 |normal|ret|exit (id:Nat)
def Lp:Ex→Ex→Bool
 |.normal,.normal|.ret,.ret=>true
 |.exit a,.exit b=>Nat.beq a b
 |_,_=>false
abbrev qg:List (Ex×zH)→Type
 |[]=>Empty
 |[p]=>p.2.den
 |p::q::l=>p.2.den⊕qg (q::l)
abbrev ot:List zH→Type
 |[]=>Empty
 |[S]=>S.den
 |S::T::l=>S.den⊕ot (T::l)
structure qC where
 ins:List zH
 outs:List (Ex×zH)
 X:Type
 sum:Nat→ot ins→Option X
 elim:Nat→X→(R:Type)→(Ex→St→Option R)→Option R
structure qB where
 mats:List Nat
 loops:List (Nat×qC)
 unr:List (Nat×Nat)
 wise:Bool
structure Env where
 P:Program
 eqT:TypeId→Bool
 sums:Gv
def mL (pre:Nat):Option Nat→Nat
 |some d=>pre+100*(d+1)
 |none=>pre
def qh:zO→Option Nat
 |.c (.ptr id 0)=>some id
 |_=>none
def Lq (P:Program)(mat:Bool)(nm:Nat)(h:Hp)(b:Builtin)(ts:Array TypeId)(l:List zO):yG:=match b with
 |.len=>match l with
  |[.c v]=>match(ts[0]?).bind P.underlying with
   |some (.slice _)=>match wu h v with
    |some n=>.one (.c (.int .i64 (n:Int)))
    |none=>.stuck
   |_=>.stuck
  |_=>.stuck
 |.append=>match l with
  |[b,x]=>match ts.toList with
   |[t,u]=>bif Nat.beq t u then xd P mat nm h t b x else .stuck
   |_=>.stuck
  |_=>.stuck
 |.copy=>match l with
  |[d,s]=>match(ts[0]?).bind P.underlying with
   |some (.slice e)=>bif Nat.beq (P.cellsOf e) 1 then xe h d s else .stuck
   |_=>.stuck
  |_=>.stuck
 |.clear=>match l with
  |[.c (.osl id (some (lo,n)))]=>match ts[0]? with
   |some t=>Gt P h t id lo n
   |none=>.stuck
  |_=>.stuck
 |.max=>Gu false l
 |.min=>Gu true l
 |_=>.stuck
def gJ (E:Env)(A:qB)(k pre:Nat)(o:Oper)(ev:Operand→zO)(h:Hp):yG:=
 let nm:=mL pre o.dst
 let mat:=match o.dst with|some d=>A.mats.any (Nat.beq d)|none=>false
 match o.op with
 |.move x|.assign x=>.one (ev x)
 |.pick c a b=>match ev c with
  |.c (.bool c)=>match ev a,ev b with
   |.c (.bool a),.c (.bool b)=>.one (.c (.bool (bif c then a else b)))
   |va,vb=>.alts [(c,va,[]),(true,vb,[])]
  |_=>.stuck
 |.alloc t=>match h nm,zeroCells E.P t with
  |none,some zs=>.alts [(true,.c (.ptr nm 0),[(nm,.box true zs)])]
  |_,_=>.stuck
 |.box t x=>match h nm,kI (ev x) with
  |none,some vs=>.alts [(true,.c (.ptr nm 0),[(nm,.box (!mat) vs)])]
  |_,_=>.stuck
 |.build t parts=>Lj E.P t (parts.toList.map fun p=>(p.1,ev p.2))
 |.buildSlice t n parts=>w6 E.P mat nm h t n (parts.toList.map fun p=>(p.1,ev p.2))
 |.load t a=>wx E.P h t (ev a)
 |.store t a v=>wy E.P h t (ev a) (ev v)
 |.nilCheck x=>match ev x with
  |.c (.ptr a b)=>.one (.c (.ptr a b))
  |.c (.eptr a b c)=>.one (.c (.eptr a b c))
  |.c (.fptr s t x off)=>.one (.c (.fptr s t x off))
  |.c (.fn f c)=>.one (.c (.fn f c))
  |_=>.stuck
 |.binOp op t x y _=>
  bif VL y && VK op then (match E.P.underlying t,ev x with
   |some d,.c v=>match Lc d y v with
    |some b=>.one (.c (.bool (Cn op b)))
    |none=>.stuck
   |_,_=>.stuck)
  else Ld E.P E.eqT op t x y (ev x) (ev y)
 |.unOp op _ x=>Le op (ev x)
 |.convert s d x=>match E.P.underlying s,E.P.underlying d,ev x with
  |some (.int _),some (.int k),.c (.int _ n)=>.one (.c (.int k (k.wrap n)))
  |some (.slice e),some .string,.c c=>match E.P.underlying e,wq h c with
   |some (.int .u8),some xs=>.one (.c (.str xs))
   |_,_=>.stuck
  |_,_,_=>.stuck
 | .makeFunc (.func f) first captured => bif Nat.beq first.size 0 then (match captured.toList.mapM (fun x=>qh (ev x)) with
   |some ids=>.one (.c (.fn f ids))
   |none=>.stuck) else .stuck
 |.makeSlice t l c=>w7 E.P mat nm h t (ev l) (ev c)
 |.makeMap t none=>w8 E.P nm h t
 |.lookup t x i false=>w9 E.P h t (ev x) (ev i)
 |.mapUpdate t x i y=>xa E.P h t (ev x) (ev i) (ev y)
 |.slice t x lo hi mx=>xc E.P h t (ev x) (lo.map ev) (hi.map ev) (mx.map ev)
 |.fieldAddr t x f=>Lf E.P t (ev x) f
 |.field t x f=>Lh E.P t (ev x) f
 |.indexAddr t x i=>wz E.P h t (ev x) (ev i)
 |.index t x i=>Lg E.P t (ev x) (ev i)
 |.extract t i=>match ev t with
  |.tup xs=>match xs[i]? with
   |some (g,vs)=>.ofO (mJ (some g) vs)
   |none=>.stuck
  |_=>.stuck
 |.call c=>match c.callee with
  |.builtin b=>Lq E.P mat nm h b c.argTypes (c.args.toList.map ev)
  |.value f=>match ev f with
   |.c (.fn f cap)=>E.sums k nm f (c.args.toList.map ev++cap.map fun id=>.c (.ptr id 0)) h
   |_=>.stuck
  |_=>.stuck
 |_=>.stuck
structure xg where
 i:Nat
 nm:Nat
 upd:List Nat
 refs:Option (List Nat)
def yT:zR→List Nat
 |.osl id _|.bsl id _ _|.ptr id _|.eptr id _ _|.mrow id _ _|.mptr id _|.meptr id _ _ _|.map id=>[id]
 |.fn _ cap=>cap
 |_=>[]
def yC:zO→List Nat
 |.c v=>yT v
 |.agg vs=>vs.flatMap yT
 |.tup xs=>xs.flatMap fun x=>x.2.flatMap yT
 |_=>[]
def vW:zO→Bool
 |.c (.ptr _ _)|.c (.map _)|.c (.eptr _ _ _)|.c (.mptr _ _)|.c (.meptr _ _ _ _)|.c (.bsl _ _ _)=>true
 |.c (.fn _ cap)=> !cap.isEmpty
 |_=>false
def Lr:Op→Bool
 |.call {callee:=.value _,..}=>true
 |_=>false
def VM:Op→Bool
 |.move _|.assign _|.nilCheck _|.fieldAddr _ _ _|.field _ _ _|.extract _ _=>true
 |_=>false
def mM (ev:Operand→zO)(o:Oper):Option (List Nat):=bif VM o.op then some [] else
 let vals:=o.op.operands.toList.map ev
 bif Lr o.op&&vals.any vW then none else some (vals.flatMap yC)
def Gz (a:List Nat):Option (List Nat)→Bool
 |none=> !a.isEmpty
 |some b=>a.any fun x=>b.any (Nat.beq x)
def j8 (nm a:Nat):Bool:=Nat.ble nm a&&Nat.blt a (nm+100)
def ou (x y:xg):Bool:=Gz x.upd y.refs||Gz y.upd x.refs||x.upd.any (j8 y.nm)||y.upd.any (j8 x.nm)||x.upd.any fun a=>y.upd.any (Nat.beq a)
def ka (b:Array Nat)(i j:Nat):Bool:=(b.getD j 0).testBit i
def ow (ops:Array Oper)(i j:Nat):Bool:=match ops[i]?,ops[j]? with
 |some x,some y=>x.apart ops y
 |_,_=>false
def Ct (ops:Array Oper):Bool:=ops.toList.zipIdx.all fun p=>p.1.after.toList.all fun e=> !Region.binds .any e||Nat.blt e.on p.2
def qi (na nt:Nat):Option Nat→Bool
 |some d=>Nat.ble na d&&Nat.blt d nt
 |none=>true
def jH (u:yO):List Nat:=u.map (·.1)
section
variable (E:Env) (A:qB) (k pre na nt:Nat) {R:Type}
def GA (o:Oper)(st:St)(K:zO→yO→St→Option R):Option R:=
 bif qi na nt o.dst then
  (gJ E A k pre o st.ev st.h).elim fun v u=>K v u {t:=fy st.t o.dst v,h:=qA st.h u}
 else none
def GB (ops:Array Oper)(j:Nat):Option Nat:=(ops[j]?).bind (·.dst)
def GC (ops:Array Oper)(o:Oper)(st:St)(yes no:St→Option R):Option R:=match o.guard with
 |none=>yes st
 |some (j,want)=>match GB ops j with
  |none=>none
  |some s=>match st.t s with
   |.c (.bool b)=>bif b then(let st:={st with t:=wT st.t s (.c (.bool true))};bif want then yes st else no st)
     else(let st:={st with t:=wT st.t s (.c (.bool false))};bif want then no st else yes st)
   |.skp=>no st
   |_=>none
def GD (ops:Array Oper):List (Nat×Oper)→St→(St→Option R)→Option R
 |[],st,K=>K st
 |(_,o)::rest,st,K=>GC ops o st
   (fun st=>GA E A k pre na nt o st fun _ _ st=>GD ops rest st K)
   (fun st=>bif qi na nt o.dst then GD ops rest {st with t:=fy st.t o.dst .skp} K else none)
def xh (ops:Array Oper)(b:Array Nat):List (Nat×Oper)→List xg→St→(St→Option R)→Option R
 |[],_,st,K=>K st
 |(i,o)::rest,done,st,K=>
  bif done.all fun d=>ka b d.i i||ow ops d.i i then GC ops o st
   (fun st=>let r:=mM st.ev o;GA E A k pre na nt o st fun _ u st=>
    let x:xg:=⟨i,mL pre o.dst,jH u,r⟩
    bif done.all fun d=>ka b d.i i|| !ou d x then xh ops b rest (x::done) st K else none)
   (fun st=>bif qi na nt o.dst then xh ops b rest (⟨i,mL pre o.dst,[],some []⟩::done) {st with t:=fy st.t o.dst .skp} K else none)
  else none
def yZz:Option Obj→List Nat
 |some (.box _ cells)=>cells.flatMap yT
 |some (.robox cells)=>cells.flatMap yT
 |_=>[]
def xi (h:Hp):Nat→List Nat→List Nat→List Nat
 |0,_,seen=>seen
 |_,[],seen=>seen
 |n+1,id::todo,seen=>bif seen.any (Nat.beq id) then xi h n todo seen else xi h n (yZz (h id)++todo) (seen++[id])
def jO (id:Nat):List Nat→Nat→Option Nat
 |[],_=>none
 |a::l,i=>bif Nat.beq a id then some i else jO id l (i+1)
def ql (h:Hp)(ρ:Nat→Option Nat):zR→zR
 |.osl id r=>match ρ id with|some i=>.osl i r|none=>.undef
 |.bsl id a b=>match ρ id with|some i=>.bsl i a b|none=>.undef
 |.ptr id a=>match ρ id with|some i=>.ptr i a|none=>.undef
 |.eptr id a b=>match ρ id with|some i=>.eptr i a b|none=>.undef
 |.mrow id a ver=>match ρ id,h id with
  |some i,some (.mat v _)=>bif Nat.beq v ver then .mrow i a 0 else .undef
  |_,_=>.undef
 |.mptr id a=>match ρ id with|some i=>.mptr i a|none=>.undef
 |.meptr id a b ver=>match ρ id,h id with
  |some i,some (.mat v _)=>bif Nat.beq v ver then .meptr i a b 0 else .undef
  |_,_=>.undef
 |.map id=>match ρ id with|some i=>.map i|none=>.undef
 |.fn f cap=>match cap.mapM ρ with|some c=>.fn f c|none=>.undef
 |v=>v
def VN (h:Hp)(ρ:Nat→Option Nat):zO→zO
 |.c v=>.c (ql h ρ v)
 |.agg vs=>.agg (vs.map (ql h ρ))
 |.tup xs=>.tup (xs.map fun x=>(x.1,x.2.map (ql h ρ)))
 |v=>v
def qm (h:Hp)(ρ:Nat→Option Nat):Obj→Obj
 |.box own cells=>.box own (cells.map (ql h ρ))
 |.robox cells=>.robox (cells.map (ql h ρ))
 |.mat _ xs=>.mat 0 xs
 |.pmat _ xs n=>.pmat 0 xs n
 |o=>o
def eC:Nat:=1000000
def Ls (st:St)(s:Nat):Option Nat→St
 |none=>match st.t s with
  |.c c=>match kK st.h c with
   |some (c',u)=>{t:=wT st.t s (.c c'),h:=qA st.h u}
   |none=>st
  |_=>st
 |some j=>match st.t s with
  |.c (.ptr id 0)=>match st.h id with
   |some (.box true cells)=>match cells[j]? with
    |some c=>match kK st.h c with
     |some (c',u)=>{st with h:=qW (qA st.h u) id (.box true (cells.set j c'))}
     |none=>st
    |none=>st
   |_=>st
  |.agg cells=>match cells[j]? with
   |some c=>match kK st.h c with
    |some (c',u)=>{t:=wT st.t s (.agg (cells.set j c')),h:=qA st.h u}
    |none=>st
   |none=>st
  |_=>st
def VO:Ty→Bool
 |.bool=>true
 |_=>false
def Lt (st:St)(nm:Nat)(g:Nat×Option Nat×Ty×Bool):St:=bif g.2.2.2&&VO g.2.2.1 then Ls st g.1 g.2.1 else match g.2.1 with
 |none=>match st.t g.1 with
  |.c .nsl=>{t:=wT st.t g.1 (.c (.osl nm none)),h:=qW st.h nm (bif g.2.2.2 then .mat 0 [] else .arr true g.2.2.1 [])}
  |_=>st
 |some j=>match st.t g.1 with
  |.c (.ptr id 0)=>match st.h id with
   |some (.box true cells)=>match cells[j]? with
    |some .nsl=>{st with h:=qW (qW st.h nm (bif g.2.2.2 then .mat 0 [] else .arr true g.2.2.1 [])) id (.box true (cells.set j (.osl nm none)))}
    |_=>st
   |_=>st
  |_=>st
def GG (st:St):Nat→List (Nat×Option Nat×Ty×Bool)→Option St
 |_,[]=>some st
 |nm,g::l=>match st.h nm with
  |none=>GG (Lt st nm g) (nm+1) l
  |some _=>none
def tp (base : Nat) (h : Hp) (ids : List Nat) : Hp := fun n => bif Nat.ble base n then (match ids[n-base]? with
 |some id=>(h id).map (qm h fun i=>(jO i ids 0).map (base+·))
 |none=>none) else none
def GH (f:zO→zO)(t:Nat→zO):(l:List (Nat×VS))→Option (SV l)
 |[]=>some ()
 |s::l=>match Lm s.2 (f (t s.1)),GH f t l with
  |some d,some ds=>some (d,ds)
  |_,_=>none
def GI (f:Obj→Obj)(h:Hp):(l:List OS)→List Nat→Option (OL l)
 |[],[]=>some ()
 |o::l,id::ids=>match(h id).bind fun x=>Gx o (f x),GI f h l ids with
  |some d,some ds=>some (d,ds)
  |_,_=>none
 |_,_=>none
def Lu (g0 base n:Nat)(S:zH)(st:St):Option S.den:=match GG st g0 S.grow with
 |none=>none
 |some st=>
  let ids:=xi st.h n (S.slots.flatMap fun s=>yC (st.t s.1)) []
  match GH (VN st.h fun i=>(jO i ids 0).map (base+·)) st.t S.slots,GI (qm st.h fun i=>(jO i ids 0).map (base+·)) st.h S.objs ids with
  |some a,some b=>some (a,b)
  |_,_=>none
def Cu (S:zH)(st:St):Option S.den:=Lu (pre+500000) (pre+eC) 400 S st
def xj:(l:List zH)→St→Option (ot l)
 |[],_=>none
 |[S],st=>Cu pre S st
 |S::T::l,st=>match Cu pre S st with
  |some d=>some (.inl d)
  |none=>match xj (T::l) st with
   |some d=>some (.inr d)
   |none=>none
def GJ (base:Nat):(l:List zH)→ot l→(St→Option R)→Option R
 |[],_,_=>none
 |[S],d,K=>K (zP base S d)
 |S::T::l,d,K=>match d with
  |.inl d=>K (zP base S d)
  |.inr d=>GJ base (T::l) d K
def Cv:(l:List (Ex×zH))→Ex→St→Option (qg l)
 |[],_,_=>none
 |[p],e,st=>bif Lp p.1 e then Cu pre p.2 st else none
 |p::q::l,e,st=>match(bif Lp p.1 e then Cu pre p.2 st else none) with
  |some d=>some (.inl d)
  |none=>match Cv (q::l) e st with
   |some d=>some (.inr d)
   |none=>none
def xk (base:Nat):(l:List (Ex×zH))→qg l→(Ex→St→Option R)→Option R
 |[],_,_=>none
 |[p],d,K=>K p.1 (zP base p.2 d)
 |p::q::l,d,K=>match d with
  |.inl d=>K p.1 (zP base p.2 d)
  |.inr d=>xk base (q::l) d K
def VP ins outs {X:Type}(iS:qg outs→X)(again:ot ins→Option X):Ex→St→Option X
 |.normal,st=>match xj pre ins st with
  |some d=>again d
  |none=>none
 |e,st=>match Cv pre outs e st with
  |some o=>some (iS o)
  |none=>none
def tq:Code→Option Nat
 |.region id _ _=>some id
 |.seq a b=>match tq a with|some i=>some i|none=>tq b
 |.cond _ a b=>match tq a with|some i=>some i|none=>tq b
 |.block _ b|.loop b|.scope b=>tq b
 |_=>none
def qn (b:Code):Option qC:=match tq b with
 |some i=>A.loops.lookup i
 |none=>none
def vBk (b:Code):Nat:=match tq b with
 |some i=>(A.unr.lookup i).getD 0
 |none=>0
def Lv (b:St→(Ex→St→Option R)→Option R):Nat→St→(Ex→St→Option R)→Option R
 |0,_,_=>none
 |n+1,st,K=>b st fun e st=>match e with
  |.normal=>Lv b n st K
  |e=>K e st
def GK (c:Operand)(b:Bool)(st:St):St:=match A.wise,c with
 |true,.tmp s=>{st with t:=wT st.t s (.c (.bool b))}
 |_,_=>st
def fW:Code→St→(Ex→St→Option R)→Option R
 |.skip,st,K=>K .normal st
 |.region _ ops draw,st,K=>bif draw
   then bif !Ct ops then none else xh E A k pre na nt ops (Region.before ops) (ops.toList.zipIdx.map fun p=>(p.2,p.1)) [] st (K .normal)
   else GD E A k pre na nt ops (ops.toList.zipIdx.map fun p=>(p.2,p.1)) st (K .normal)
 |.seq a b,st,K=>fW a st fun e st=>match e with
  |.normal=>fW b st K
  |e=>K e st
 |.cond c a b,st,K=>match st.ev c with
  |.c (.bool t)=>bif t then fW a (GK A c true st) K else fW b (GK A c false st) K
  |_=>none
 |.block id b,st,K=>fW b st fun e st=>match e with
  |.exit i=>bif Nat.beq i id then K .normal st else K (.exit i) st
  |e=>K e st
 |.loop b,st,K=>match qn A b with
  |none=>Lv (fW b) (vBk A b) st K
  |some L=>match xj pre L.ins st with
   |none=>none
   |some d=>(L.sum k d).bind fun x=>L.elim (pre+eC) x R K
 |.exit id,st,K=>K (.exit id) st
 |.ret,st,K=>K .ret st
 |_,_,_=>none
def qo (st:St):ResultVar→Option zO
 |.tmp t=>some (st.t t)
 |.cell a t=>match st.t a with
  |.c (.ptr id off)=>match st.h id with
   |some (.box _ cells)=>match iQ cells off (E.P.cellsOf t) with
    |some vs=>mJ (jD E.P t) vs
    |none=>none
   |_=>none
  |_=>none
def xl:zO→Option (Bool×List zR)
 |.c v=>some (false,[v])
 |.agg vs=>some (true,vs)
 |_=>none
def GL (fn:Func)(st:St):Option zO:=match fn.results.toList with
 |[]=>some (.tup [])
 |[r]=>qo E st r
 |rs=>match rs.mapM (fun r=>(qo E st r).bind xl) with
  |some xs=>some (.tup xs)
  |none=>none
def GM (args:List zO):Nat→zO:=fun n=>args.getD n .skp
def fY (fn:Func)(args:List zO)(h:Hp)(K:zO→St→Option R):Option R:=match fn.body with
 |none=>none
 |some code=>bif Nat.ble args.length fn.ntmps then fW E A k pre na fn.ntmps code {t:=GM args,h:=h} fun e st=>match e with
  |.exit _=>none
  |_=>match GL E fn st with
   |some v=>K v st
   |none=>none
  else none
end
def _root_.Go.Value.one1:Value→Bool
 |.agg _|.tuple _=>false
 |_=>true
def yD (H:Array Go.Obj)(B o:Nat):Option Value:=match H[B]? with
 |some (.cells c _ _)=>c[o]?
 |_=>none
def qN (H:Array Go.Obj)(B:Nat):Nat:=match H[B]? with
 |some (.cells c _ _)=>c.size
 |_=>0
theorem oz (w:World) B o:w.cell? ⟨B,o,none⟩=yD w.heap B o:=by
 rfl
theorem Lw {H H' B}(h:H'[B]? =H[B]?) o:yD H' B o=yD H B o:=by unfold yD;rw[h]
theorem xm {H H' B}(h:H'[B]? =H[B]?):qN H' B=qN H B:=by unfold qN;rw[h]
def zU (H:Array Go.Obj)(F:Nat→Prop):(t:Ty)→t.den→(Nat→Option Value)→Prop
 |.int k,n,rd=>rd 0=some (.int k n)
 |.bool,b,rd=>rd 0=some (.bool b)
 |.sl t,xs,rd=>∃A n c,rd 0=some (.slice A n c)∧n=xs.length∧n≤c∧
   ((xs=[]∧(A=none→c=0))∨∃B o,A=some ⟨B,o,none⟩∧F B∧∀i (h:i<xs.length),zU H F t xs[i] (fun j=>yD H B (o+i*t.size+j)))
 |.pair a b,p,rd=>zU H F a p.1 rd∧zU H F b p.2 (fun j=>rd (j+a.size))
theorem yK {H H' F F'}(hF:∀b,F b→F' b)(hs:∀b,F b→H'[b]? =H[b]?):
  ∀t x rd dy,(∀j,j<t.size→dy j=rd j)→zU H F t x rd→zU H' F' t x dy
 |.int k,n,rd,dy,hr,h
 |.bool,n,rd,dy,hr,h=>by simp[zU] at h⊢;rw[hr 0 (by simp[Ty.size])];exact h
 |.sl t,xs,rd,dy,hr,h=>by
  obtain⟨A,n,c,h1,h2,h3,h4⟩:=h
  refine⟨A,n,c,by rw[hr 0 (by simp[Ty.size])];exact h1,h2,h3,?_⟩
  rcases h4 with h4|⟨B,o,e,hB,h4⟩
  ·simp_all
  ·exact .inr ⟨B,o,e,hF B hB,fun i hi=>yK hF hs t _ _ _ (fun j _=>Lw (hs B hB) _) (h4 i hi)⟩
 |.pair a b,p,rd,dy,hr,h=>by
  exact⟨yK hF hs a _ _ _ (fun j hj=>hr j (by simp[Ty.size];omega)) h.1,
   yK hF hs b _ _ _ (fun j hj=>hr _ (by simp[Ty.size];omega)) h.2⟩
theorem Ty.size_pos:∀t:Ty,0<t.size
 |.int _|.bool|.sl _=>by simp[Ty.size]
 |.pair a b=>by have:=Ty.size_pos a;simp[Ty.size];omega
structure zT where
 blk:Option Nat
 len:Nat
 sz:Nat
 ver:Nat
 rows:List (Option Nat×Nat)
def zT.fp (C:zT):List Nat:=C.blk.toList++C.rows.filterMap (·.1)
structure zT.le (C C':zT):Prop where
 blk:C'.blk=C.blk
 len:C'.len=C.len
 sz:C'.sz=C.sz
 ver:C.ver≤C'.ver
 rows:C'.ver=C.ver→C'.rows=C.rows
theorem zT.le_refl (C:zT):C.le C:=⟨rfl,rfl,rfl,by simp,by simp⟩
theorem zT.le_trans {A B C:zT}(h:A.le B)(k:B.le C):A.le C:=
 ⟨k.blk.trans h.blk,k.len.trans h.len,k.sz.trans h.sz,Nat.le_trans h.ver k.ver,fun e=>by
  have:=h.ver;have:=k.ver
  rw[k.rows (by omega),h.rows (by omega)]⟩
structure zG where
 κ:Nat→Option zT
 F:Nat→Prop
 G:Nat→Prop
 h:Hp
 H:Array Go.Obj
def zI {α β:Type}(R:α→β→Prop):List α→List β→Prop
 |[],[]=>True
 |a::l,b::m=>R a b∧zI R l m
 |_,_=>False
theorem zI.mono {α β R S}(h:∀a b,R a b→S a b):∀{l:List α} {m:List β},zI R l m→zI S l m
 |[],[],_=>trivial
 |_::_,_::_,hh=>⟨h _ _ hh.1,zI.mono h hh.2⟩
theorem zI.length {α β R}:∀{l:List α} {m:List β},zI R l m→l.length=m.length
 |[],[],_=>rfl
 |_::_,_::_,hh=>by simp[zI.length hh.2]
theorem zI.get {α β R}:∀{l:List α} {m:List β},zI R l m→∀i h (h':i<m.length),R l[i] m[i]
 |_::_,_::_,hh,0,_,_=>hh.1
 |_::_,_::_,hh,i+1,h,h'=>zI.get hh.2 i (by simp_all) (by simp_all)
theorem zI.of_get {α β R}:∀{l:List α} {m:List β},l.length=m.length→(∀i h (h':i<m.length),R l[i] m[i])→zI R l m
 |[],[],_,_=>trivial
 |a::l,b::m,hl,h=>⟨h 0 (by simp) (by simp),zI.of_get (by simp_all) fun i h1 h2=>h (i+1) (by simp_all) (by simp_all)⟩
theorem zI.append {α β R}:∀{l l':List α} {m m':List β},zI R l m→zI R l' m'→zI R (l++l') (m++m')
 |[],_,[],_,_,k=>k
 |_::_,_,_::_,_,h,k=>⟨h.1,zI.append h.2 k⟩
theorem zI.drop {α β R}:∀n {l:List α} {m:List β},zI R l m→zI R (l.drop n) (m.drop n)
 |0,_,_,h=>h
 |n+1,[],[],_=>trivial
 |n+1,_::_,_::_,h=>zI.drop n h.2
theorem zI.take {α β R}:∀n {l:List α} {m:List β},zI R l m→zI R (l.take n) (m.take n)
 |0,_,_,_=>by simp[zI]
 |n+1,[],[],_=>trivial
 |n+1,_::_,_::_,h=>⟨h.1,zI.take n h.2⟩
theorem zI.set {α β R}{a:α}{b:β}(GN:R a b):∀n {l m},zI R l m→zI R (l.set n a) (m.set n b)
 |_,[],[],_=>trivial
 |0,_::_,_::_,h=>⟨GN,h.2⟩
 |n+1,_::_,_::_,h=>⟨h.1,zI.set GN n h.2⟩
def wJ (H:Array Go.Obj)(C:zT)(lo n:Nat)(v:Value):Prop:=∃A c,v=.slice A n c∧match C.blk with
 |none=>A=none∧n=0∧c=0
 |some B=>n≤c∧∃a,A=some ⟨B,a,none⟩∧(c=0∨a=lo*C.sz)∧(lo+c)*C.sz≤qN H B
def iT (H:Array Go.Obj)(rb:Option Nat)(n:Nat)(v:Value):Prop:=match rb with
 |none=>v=.slice none 0 0∧n=0
 |some B=>∃a c,v=.slice (some ⟨B,a,none⟩) n c∧n≤c∧(c=0∨a=0)∧c≤qN H B
def Lx (C:zT)(lo:Nat)(v:Value):Prop:=∃A n c,v=.slice A n c∧C.len≤lo+c
def zQ (M:zG):zR→Value→Prop
 |.undef,v=>v.one1=true
 |.int k n,v=>v=.int k n
 |.bool b,v=>v=.bool b
 |.fsl sh t xs,v=>zU M.H (bif sh then M.G else M.F) (.sl t) xs (fun _=>some v)
 |.nsl,v=>v=.slice none 0 0
 |.nfl sh t xs,v=>(∃a n c,v=.slice (some a) n c)∧zU M.H (bif sh then M.G else M.F) (.sl t) xs (fun _=>some v)
 |.osl id r,v=>∃C,M.κ id=some C∧match r with
  |none=>wJ M.H C 0 C.len v
  |some (lo,n)=>lo+n≤C.len∧wJ M.H C lo n v∧Lx C lo v
 |.bsl id off n,v=>∃C B,M.κ id=some C∧C.blk=some B∧v=.slice (some ⟨B,off,none⟩) n n
 |.ptr id off,v=>∃C B,M.κ id=some C∧C.blk=some B∧v=.pointer (some ⟨B,off,none⟩)
 |.eptr id i off,v=>∃C B,M.κ id=some C∧C.blk=some B∧i<C.len∧v=.pointer (some ⟨B,i*C.sz+off,none⟩)
 |.fptr sh t x off,v=>∃B o,v=.pointer (some ⟨B,o+off,none⟩)∧(bif sh then M.G else M.F) B∧zU M.H (bif sh then M.G else M.F) t x (fun j=>yD M.H B (o+j))
 |.mrow id i ver,v=>∃C,M.κ id=some C∧v.one1=true∧ver≤C.ver∧(C.ver=ver→∃rb rl,C.rows[i]? =some (rb,rl)∧iT M.H rb rl v)
 |.mptr id i,v=>∃C B,M.κ id=some C∧C.blk=some B∧i<C.len∧v=.pointer (some ⟨B,i,none⟩)
 |.meptr id i j ver,v=>∃C,M.κ id=some C∧v.one1=true∧ver≤C.ver∧(C.ver=ver→∃B rl,C.rows[i]? =some (some B,rl)∧j<rl∧v=.pointer (some ⟨B,j,none⟩))
 |.nilp,v=>v=.pointer none
 |.nilf,v=>v=.nilFunc
 |.nilm,v=>v=.map none
 |.fn f cap,v=>∃cv,v=.func (.func f) #[] cv∧zI (fun id u=>∃C B,M.κ id=some C∧C.blk=some B∧u=.pointer (some ⟨B,0,none⟩)) cap cv.toList
 |.map id,v=>∃C B,M.κ id=some C∧C.blk=some B∧v=.map (some B)
 |.str xs,v=>v=.string ⟨(kJ xs).toArray⟩
theorem wJ.one {H C lo n v}(h:wJ H C lo n v):v.one1=true:=by
 obtain⟨A,c,rfl,_⟩:=h;rfl
theorem zQ.one {M c v}(h:zQ M c v):v.one1=true:=by
 cases c with
 |undef=>exact h
 |fsl sh t xs=>obtain⟨A,n,c,e,_⟩:=h;simp at e;rw[e];rfl
 |nfl sh t xs=>obtain⟨⟨a,n,c,e⟩,_⟩:=h;rw[e];rfl
 |osl id r=>
  obtain⟨C,_,h⟩:=h
  cases r with
  |none=>exact wJ.one h
  |some p=>exact wJ.one h.2.1
 |bsl id off n=>obtain⟨C,B,_,_,rfl⟩:=h;rfl
 |ptr id off=>obtain⟨C,B,_,_,rfl⟩:=h;rfl
 |eptr id i off=>obtain⟨C,B,_,_,_,rfl⟩:=h;rfl
 |fptr sh t x off=>obtain⟨B,o,rfl,_⟩:=h;rfl
 |mrow id i ver=>obtain⟨C,_,h,_⟩:=h;exact h
 |mptr id i=>obtain⟨C,B,_,_,_,rfl⟩:=h;rfl
 |meptr id i j ver=>obtain⟨C,_,h,_⟩:=h;exact h
 |fn f cap=>obtain⟨cv,rfl,_⟩:=h;rfl
 |map id=>obtain⟨C,B,_,_,rfl⟩:=h;rfl
 |_=>rw[show v=_ from h];rfl
def qp (M:zG)(x:Bool×List zR)(v:Value):Prop:=match x with
 |(false,[c])=>zQ M c v
 |(true,cs)=>∃vs,v=.agg vs∧zI (zQ M) cs vs.toList
 |_=>False
def zN (M:zG):zO→Value→Prop
 |.undef,_=>True
 |.skp,v=>v=undef
 |.c x,v=>zQ M x v
 |.agg cs,v=>∃vs,v=.agg vs∧zI (zQ M) cs vs.toList
 |.tup xs,v=>∃vs,v=.tuple vs∧zI (qp M) xs vs.toList
def Obj.owned:Obj→Bool
 |.box o _=>o
 |.arr o _ _=>o
 |.robox _=>false
 |.mat _ _=>true
 |.pmat _ _ _=>true
 |.imap _=>true
 |.gone=>false
def jJ (n:Int):List MapEntry→Option Value
 |[]=>none
 |e::es=>match e.key with
  |.int .i64 m=>if n=m then some e.val else jJ n es
  |_=>jJ n es
def yJ (M:zG)(o:Obj)(C:zT):Prop:=match o with
 |.box own cells=>∃B vals e,C.blk=some B∧C.rows=[]∧M.H[B]? =some (.cells vals e (0,0))∧zI (zQ M) cells vals.toList∧(own=false→M.G B)
 |.robox cells=>∃B vals e,C.blk=some B∧C.rows=[]∧M.H[B]? =some (.cells vals e (0,0))∧zI (zQ M) cells vals.toList∧M.F B
 | .arr own t xs => C.len = xs.length ∧ C.sz = t.size ∧ (own = true → C.rows = []) ∧ (match C.blk with
  |none=>xs=[]
  |some B=>∃vals e,M.H[B]? =some (.cells vals e (0,0))∧(own=false→M.G B)∧xs.length*t.size≤vals.size∧
    ∀i (h:i<xs.length),zU M.H M.G t xs[i] (fun j=>vals[i*t.size+j]?))
 | .mat ver xs => C.ver = ver ∧ C.len = xs.length ∧ C.sz = 1 ∧ C.rows.length = xs.length ∧ C.fp.Nodup ∧ (match C.blk with
  |none=>xs=[]
  |some B=>∃vals e,M.H[B]? =some (.cells vals e (0,0))∧xs.length≤vals.size∧
    ∀i (h:i<xs.length),∃rb v,C.rows[i]? =some (rb,xs[i].length)∧vals[i]? =some v∧iT M.H rb xs[i].length v∧
     (∀R,rb=some R→∃rv er,M.H[R]? =some (.cells rv er (0,0))∧∀j (h':j<xs[i].length),rv[j]? =some (.int .i64 xs[i][j])))
 | .pmat ver xs n => C.ver = ver ∧ C.len = n ∧ C.sz = 1 ∧ C.rows.length = xs.length ∧ C.fp.Nodup ∧ xs.length ≤ n ∧ (match C.blk with
  |none=>n=0
  |some B=>∃vals e,M.H[B]? =some (.cells vals e (0,0))∧n≤vals.size∧
    ∀i (h:i<xs.length),∃rb v,C.rows[i]? =some (rb,xs[i].length)∧vals[i]? =some v∧iT M.H rb xs[i].length v∧
     (∀R,rb=some R→∃rv er,M.H[R]? =some (.cells rv er (0,0))∧∀j (h':j<xs[i].length),rv[j]? =some (.int .i64 xs[i][j])))
 |.imap cg=>∃B es ck,C.blk=some B∧C.rows=[]∧M.H[B]? =some (.map es ck)∧(∀e∈es.toList,∃n b,e.key=.int .i64 n∧e.val=.bool b)∧
   ∀n,jJ n es.toList=(cg.lookup n).map .bool
 |.gone=>True
def qF (M:zG)(b:Nat):Prop:=∃id o C,M.h id=some o∧o.owned=true∧M.κ id=some C∧b∈C.fp
structure Ok (M:zG):Prop where
 obj:∀id o,M.h id=some o→∃C,M.κ id=some C∧yJ M o C
 non:∀id,M.h id=none→M.κ id=none
 disj:∀i j oi oj Ci Cj b,i≠j→M.h i=some oi→M.h j=some oj→oi.owned=true→oj.owned=true→M.κ i=some Ci→M.κ j=some Cj→b∈Ci.fp→b∈Cj.fp→False
 own:∀b,qF M b→¬M.F b∧b<M.H.size
 GF:∀b,M.G b→M.F b
 Flt:∀b,M.F b→b<M.H.size
structure yB (M M':zG):Prop where
 κ:∀id C,M.κ id=some C→∃C',M'.κ id=some C'∧C.le C'
 F:∀b,M.F b→M'.F b
 G:∀b,M.G b→M'.G b
 same:∀b,M.F b→M'.H[b]? =M.H[b]?
 sameG:∀b,M.G b→M'.H[b]? =M.H[b]?
 bsz:∀b,b<M.H.size→qN M'.H b=qN M.H b
theorem yMo {H b}(h:¬b<H.size):qN H b=0:=by
 unfold qN;simp_all
theorem VQ {M M'}(x:yB M M') b:qN M.H b≤qN M'.H b:=by
 by_cases h:b<M.H.size
 ·rw[x.bsz b h];omega
 ·rw[yMo h];omega
theorem wJ.ext {M M'}(x:yB M M'){C C'}(le:C.le C'){lo n v}(h:wJ M.H C lo n v):wJ M'.H C' lo n v:=by
 obtain⟨A,c,rfl,h⟩:=h
 refine⟨A,c,rfl,?_⟩
 rw[le.blk]
 cases hb:C.blk with
 |none=>simp_all
 |some B=>
  rw[hb] at h
  obtain⟨h0,a,h1,h2,h3⟩:=h
  exact⟨h0,a,h1,by rw[le.sz];exact h2,by rw[le.sz];exact Nat.le_trans h3 (VQ x B)⟩
theorem iT.ext {M M'}(x:yB M M'){rb n v}(h:iT M.H rb n v):iT M'.H rb n v:=by
 cases rb with
 |none=>exact h
 |some B=>
  obtain⟨a,c,h1,h2,h3,h4⟩:=h
  exact⟨a,c,h1,h2,h3,Nat.le_trans h4 (VQ x B)⟩
theorem zQ.ext {M M'}(x:yB M M'){c v}(h:zQ M c v):zQ M' c v:=by
 cases c with
 |fsl sh t xs=>
  cases sh with
  |true=>exact yK x.G x.sameG _ _ _ _ (fun _ _=>rfl) h
  |false=>exact yK x.F x.same _ _ _ _ (fun _ _=>rfl) h
 |nfl sh t xs=>
  cases sh with
  |true=>exact⟨h.1,yK x.G x.sameG _ _ _ _ (by simp) h.2⟩
  |false=>exact⟨h.1,yK x.F x.same _ _ _ _ (by simp) h.2⟩
 |osl id r=>
  obtain⟨C,hC,h⟩:=h
  obtain⟨C',au,le⟩:=x.κ id C hC
  refine⟨C',au,?_⟩
  cases r with
  |none=>rw[le.len];exact wJ.ext x le h
  |some p=>exact⟨by rw[le.len];omega,wJ.ext x le h.2.1,by unfold Lx;rw[le.len];exact h.2.2⟩
 |bsl id off n=>
  obtain⟨C,B,hC,hB,h⟩:=h
  obtain⟨C',au,le⟩:=x.κ id C hC
  exact⟨C',B,au,le.blk.trans hB,h⟩
 |ptr id off=>
  obtain⟨C,B,hC,hB,h⟩:=h
  obtain⟨C',au,le⟩:=x.κ id C hC
  exact⟨C',B,au,le.blk.trans hB,h⟩
 |eptr id i off=>
  obtain⟨C,B,hC,hB,hi,h⟩:=h
  obtain⟨C',au,le⟩:=x.κ id C hC
  exact⟨C',B,au,le.blk.trans hB,by rw[le.len];exact hi,by rw[le.sz];exact h⟩
 |fptr sh t y off=>
  obtain⟨B,o,h1,h2,h3⟩:=h
  cases sh with
  |true=>exact⟨B,o,h1,x.G B h2,yK x.G x.sameG _ _ _ _ (fun j _=>Lw (x.sameG B h2) _) h3⟩
  |false=>exact⟨B,o,h1,x.F B h2,yK x.F x.same _ _ _ _ (fun j _=>Lw (x.same B h2) _) h3⟩
 |mrow id i ver=>
  obtain⟨C,hC,h1,hle,h⟩:=h
  obtain⟨C',au,le⟩:=x.κ id C hC
  have:=le.ver
  refine⟨C',au,h1,by omega,fun e=>?_⟩
  obtain⟨rb,rl,h2,h3⟩:=h (by omega)
  exact⟨rb,rl,by rw[le.rows (by omega)];exact h2,iT.ext x h3⟩
 |mptr id i=>
  obtain⟨C,B,hC,hB,hi,h⟩:=h
  obtain⟨C',au,le⟩:=x.κ id C hC
  exact⟨C',B,au,le.blk.trans hB,by rw[le.len];exact hi,h⟩
 |meptr id i j ver=>
  obtain⟨C,hC,h1,hle,h⟩:=h
  obtain⟨C',au,le⟩:=x.κ id C hC
  have:=le.ver
  refine⟨C',au,h1,by omega,fun e=>?_⟩
  obtain⟨B,rl,h2,h3⟩:=h (by omega)
  exact⟨B,rl,by rw[le.rows (by omega)];exact h2,h3⟩
 |fn f cap=>
  obtain⟨cv,h1,h2⟩:=h
  refine⟨cv,h1,h2.mono fun id u ⟨C,B,hC,hB,hu⟩=>?_⟩
  obtain⟨C',au,le⟩:=x.κ id C hC
  exact⟨C',B,au,le.blk.trans hB,hu⟩
 |map id=>
  obtain⟨C,B,hC,hB,h⟩:=h
  obtain⟨C',au,le⟩:=x.κ id C hC
  exact⟨C',B,au,le.blk.trans hB,h⟩
 |_=>exact h
theorem qp.ext {M M'}(x:yB M M'){p v}(h:qp M p v):qp M' p v:=by
 obtain⟨b,cs⟩:=p
 cases b with
 |true=>
  obtain⟨vs,h1,h2⟩:=h
  exact⟨vs,h1,h2.mono fun _ _ hc=>hc.ext x⟩
 |false=>
  cases cs with
  |nil=>exact h
  |cons c cs=>cases cs with
   |nil=>exact zQ.ext (c:=c) x h
   |cons _ _=>exact h
theorem zN.ext {M M'}(x:yB M M'){a v}(h:zN M a v):zN M' a v:=by
 cases a with
 |undef=>trivial
 |skp=>exact h
 |c c=>exact zQ.ext (c:=c) x h
 |agg cs=>
  obtain⟨vs,h1,h2⟩:=h
  exact⟨vs,h1,h2.mono fun _ _ hc=>hc.ext x⟩
 |tup xs=>
  obtain⟨vs,h1,h2⟩:=h
  exact⟨vs,h1,h2.mono fun _ _ hc=>hc.ext x⟩
theorem yJ.ext {M M'}(x:yB M M'){o C}(hb:o.owned=true→∀b∈C.fp,M'.H[b]? =M.H[b]?)(h:yJ M o C):yJ M' o C:=by
 cases o with
 |box own cells=>
  obtain⟨B,vals,e,h1,h2,h3,h4,h5⟩:=h
  have hs:M'.H[B]? =M.H[B]? :=by
   cases own with
   |true=>exact hb rfl B (by simp[zT.fp,h1])
   |false=>exact x.sameG B (h5 rfl)
  exact⟨B,vals,e,h1,h2,by simp_all,h4.mono fun _ _ hc=>hc.ext x,fun h=>x.G B (h5 h)⟩
 |robox cells=>
  obtain⟨B,vals,e,h1,h2,h3,h4,h5⟩:=h
  exact⟨B,vals,e,h1,h2,by rw[x.same B h5];exact h3,h4.mono fun _ _ hc=>hc.ext x,x.F B h5⟩
 |arr own t xs=>
  obtain⟨h1,h2,h3,h4⟩:=h
  refine⟨h1,h2,h3,?_⟩
  cases hB:C.blk with
  |none=>simp_all
  |some B=>
   rw[hB] at h4
   obtain⟨vals,e,h5,h6,h7,h8⟩:=h4
   have hs:M'.H[B]? =M.H[B]? :=by
    cases own with
    |true=>exact hb rfl B (by simp[zT.fp,hB])
    |false=>exact x.sameG B (h6 rfl)
   exact⟨vals,e,by simp_all,fun h=>x.G B (h6 h),h7,fun i hi=>yK x.G x.sameG _ _ _ _ (by simp) (h8 i hi)⟩
 |mat ver xs=>
  obtain⟨h1,h2,h3,h4,h5,h6⟩:=h
  refine⟨h1,h2,h3,h4,h5,?_⟩
  cases hB:C.blk with
  |none=>rw[hB] at h6;exact h6
  |some B=>
   rw[hB] at h6
   obtain⟨vals,e,h7,h8,h9⟩:=h6
   refine⟨vals,e,by rw[hb rfl B (by simp[zT.fp,hB])];exact h7,h8,fun i hi=>?_⟩
   obtain⟨rb,v,k1,k2,k3,k4⟩:=h9 i hi
   refine⟨rb,v,k1,k2,k3.ext x,fun R hR=>?_⟩
   obtain⟨rv,er,k5,k6⟩:=k4 R hR
   refine⟨rv,er,?_,k6⟩
   rw[hb rfl R ?_]
   ·exact k5
   ·simp[zT.fp]
    exact by grind
 |pmat ver xs n=>
  obtain⟨h1,h2,h3,h4,h5,h0,h6⟩:=h
  refine⟨h1,h2,h3,h4,h5,h0,?_⟩
  cases hB:C.blk with
  |none=>simp_all
  |some B=>
   rw[hB] at h6
   obtain⟨vals,e,h7,h8,h9⟩:=h6
   refine⟨vals,e,by rw[hb rfl B (by simp[zT.fp,hB])];exact h7,h8,fun i hi=>?_⟩
   obtain⟨rb,v,k1,k2,k3,k4⟩:=h9 i hi
   refine⟨rb,v,k1,k2,k3.ext x,fun R hR=>?_⟩
   obtain⟨rv,er,k5,k6⟩:=k4 R hR
   refine⟨rv,er,?_,k6⟩
   rw[hb rfl R ?_]
   ·exact k5
   ·simp only[zT.fp]
    grind
 |imap cg=>
  obtain⟨B,es,ck,h1,h2,h3,h4,h5⟩:=h
  exact⟨B,es,ck,h1,h2,by rw[hb rfl B (by simp[zT.fp,h1])];exact h3,h4,h5⟩
 |gone=>trivial
structure yL (M M':zG):Prop where
 ext:yB M M'
 size:M.H.size≤M'.H.size
 frame:∀b,b<M.H.size→¬qF M b→M'.H[b]? =M.H[b]?
 own:∀b,qF M' b→b<M.H.size→qF M b
 Gb:∀b,M'.G b→b<M.H.size→M.G b∨qF M b
 Fb:∀b,M'.F b→b<M.H.size→M.F b∨qF M b
theorem yB.refl M:yB M M:=⟨fun _ C h=>⟨C,h,C.le_refl⟩,by simp,by simp,by simp,by simp,by simp⟩
theorem yL.refl M:yL M M:=⟨yB.refl M,by simp,by simp,by grind,by grind,by grind⟩
theorem yB.trans {M M' iU}(hs:M.H.size≤M'.H.size)(x:yB M M')(y:yB M' iU):yB M iU where
 κ id C h:=by
  obtain⟨C',h',le⟩:=x.κ id C h
  obtain⟨C'',h'',le'⟩:=y.κ id C' h'
  exact⟨C'',h'',zT.le_trans le le'⟩
 F b h:=y.F b (x.F b h)
 G b h:=y.G b (x.G b h)
 same b h:=(y.same b (x.F b h)).trans (x.same b h)
 sameG b h:=(y.sameG b (x.G b h)).trans (x.sameG b h)
 bsz b h:=(y.bsz b (by omega)).trans (x.bsz b h)
theorem yL.trans {M M' iU}(x:yL M M')(y:yL M' iU):yL M iU where
 ext:=x.ext.trans x.size y.ext
 size:=Nat.le_trans x.size y.size
 frame b h hn:=by
  have:=x.size
  rw[y.frame b (by omega) fun ho=>hn (x.own b ho h),x.frame b h hn]
 own b ho h:=x.own b (y.own b ho (by have:=x.size;omega)) h
 Gb b hg h:=by
  rcases y.Gb b hg (by have:=x.size;omega) with k|k
  ·exact x.Gb b k h
  ·exact .inr (x.own b k h)
 Fb b hg h:=by
  rcases y.Fb b hg (by have:=x.size;omega) with k|k
  ·exact x.Fb b k h
  ·exact .inr (x.own b k h)
theorem Ok.build {M M'}(ok:Ok M)(x:yB M M')(T:Nat→Prop)
  (hh:∀id,¬T id→M'.h id=M.h id) (hκ:∀id,¬T id→M'.κ id=M.κ id)
  (keep:∀id o C,¬T id→M.h id=some o→o.owned=true→M.κ id=some C→∀b∈C.fp,M'.H[b]? =M.H[b]?)
  (VR:∀id o C,¬T id→M.h id=some o→o.owned=true→M.κ id=some C→∀b∈C.fp,¬M'.F b)
  (size:M.H.size≤M'.H.size)
  (obj:∀id o,T id→M'.h id=some o→∃C,M'.κ id=some C∧yJ M' o C)
  (non:∀id,T id→M'.h id=none→M'.κ id=none)
  (disj:∀id o C b,T id→M'.h id=some o→o.owned=true→M'.κ id=some C→b∈C.fp→
   (∀j oj Cj,j≠id→M'.h j=some oj→oj.owned=true→M'.κ j=some Cj→b∉Cj.fp)∧¬M'.F b∧b<M'.H.size)
  (GF:∀b,M'.G b→M'.F b) (Flt:∀b,M'.F b→b<M'.H.size):Ok M' where
 obj id o h:=by
  by_cases hT:T id
  ·exact obj id o hT h
  ·rw[hh id hT] at h
   obtain⟨C,hC,hO⟩:=ok.obj id o h
   exact⟨C,by rw[hκ id hT];exact hC,hO.ext x fun ho=>keep id o C hT h ho hC⟩
 non id h:=by
  by_cases hT:T id
  ·exact non id hT h
  ·rw[hκ id hT];exact ok.non id (by rw[←hh id hT];exact h)
 disj i j oi oj Ci Cj b kL hi hj hoi hoj VT cW Cw hbj:=by
  by_cases VU:T i
  ·grind
  ·by_cases VV:T j
   ·grind
   ·rw[hh i VU] at hi;rw[hh j VV] at hj;rw[hκ i VU] at VT;rw[hκ j VV] at cW
    exact ok.disj i j oi oj Ci Cj b kL hi hj hoi hoj VT cW Cw hbj
 own b hb:=by
  obtain⟨id,o,C,h,ho,hC,hb⟩:=hb
  by_cases hT:T id
  ·exact(disj id o C b hT h ho hC hb).2
  ·rw[hh id hT] at h;rw[hκ id hT] at hC
   have:=ok.own b ⟨id,o,C,h,ho,hC,hb⟩
   grind
 GF:=GF
 Flt:=Flt
def κset (κ:Nat→Option zT)(id:Nat)(C:zT):Nat→Option zT:=fun n=>if n=id then some C else κ n
theorem κset_same κ id C:κset κ id C id=some C:=by simp[κset]
theorem κset_ne κ {id n} C (h:n≠id):κset κ id C n=κ n:=by simp[κset,h]
theorem yA h id o:qW h id o id=some o:=by simp[qW]
theorem yE h {id n} o (hn:n≠id):qW h id o n=h n:=by
 have:Nat.beq n id=false:=by
  cases hb:Nat.beq n id with
  |true=>simp_all
  |false=>rfl
 simp[qW,this]
theorem lM {H:Array Go.Obj}{o b}(h:b<H.size):(H.push o)[b]? =H[b]? :=by
 grind
theorem tt {H:Array Go.Obj}{o}:(H.push o)[H.size]? =some o:=by simp
def zG.new (M:zG)(id:Nat)(o:Obj)(C:zT)(ob:Go.Obj):zG:={M with κ:=κset M.κ id C,h:=qW M.h id o,H:=M.H.push ob}
theorem zG.new_ext {M}(ok:Ok M){id}(ab:M.h id=none) o C ob:yB M (M.new id o C ob) where
 κ n D h:=by
  have:n≠id:=fun e=>by rw[e,ok.non id ab] at h;cases h
  exact⟨D,by simp[zG.new];rw[κset_ne _ _ this];exact h,D.le_refl⟩
 F _ h:=h
 G _ h:=h
 same b h:=lM (ok.Flt b h)
 sameG b h:=lM (ok.Flt b (ok.GF b h))
 bsz b h:=xm (lM h)
theorem zG.new_ok {M}(ok:Ok M){id}(ab:M.h id=none) o C ob (hC:∀b∈C.fp,b=M.H.size)
  (hO:yJ (M.new id o C ob) o C):Ok (M.new id o C ob)∧yL M (M.new id o C ob):=by
 have x:=zG.new_ext ok ab o C ob
 have cM:(M.new id o C ob).H.size=M.H.size+1:=by simp[zG.new]
 have oA:∀b,qF (M.new id o C ob) b→b=M.H.size∨qF M b:=by
  rintro b ⟨n,q,D,h1,h2,h3,h4⟩
  by_cases e:n=id
  ·subst e
   simp[zG.new,κset_same] at h1 h3
   grind
  ·simp[zG.new] at h1 h3
   rw[yE _ _ e] at h1;rw[κset_ne _ _ e] at h3
   exact .inr ⟨n,q,D,h1,h2,h3,h4⟩
 refine⟨ok.build x (· =id) (fun n hn=>yE _ _ hn) (fun n hn=>κset_ne _ _ hn) ?_ ?_ (by omega) ?_ ?_ ?_ ok.GF ?_,x,by omega,?_,?_,?_,?_⟩
 ·intro n q D hn h1 h2 h3 b hb
  exact lM (ok.own b ⟨n,q,D,h1,h2,h3,hb⟩).2
 ·intro n q D hn h1 h2 h3 b hb
  exact(ok.own b ⟨n,q,D,h1,h2,h3,hb⟩).1
 ·rintro n q rfl h1
  simp[zG.new,yA] at h1
  subst h1
  exact⟨C,κset_same _ _ _,hO⟩
 ·rintro n rfl h1
  simp only[zG.new,yA] at h1
  cases h1
 ·rintro n q D b rfl h1 h2 h3 hb
  simp[zG.new,κset_same] at h3
  subst h3
  have eb:=hC b hb
  refine⟨fun j oj Cj hj k1 k2 k3 k4=>?_,fun hF=>?_,by omega⟩
  ·simp[zG.new] at k1 k3
   rw[yE _ _ hj] at k1;rw[κset_ne _ _ hj] at k3
   have:=(ok.own b ⟨j,oj,Cj,k1,k2,k3,k4⟩).2
   omega
  ·have:=ok.Flt b hF
   omega
 ·intro b hb
  have:=ok.Flt b hb
  omega
 ·intro b hb _
  exact lM hb
 ·grind
 ·exact fun b h _=>.inl h
 ·exact fun b h _=>.inl h
def zG.write (M:zG)(id:Nat)(o:Obj)(C:zT)(H:Array Go.Obj):zG:={M with κ:=κset M.κ id C,h:=qW M.h id o,H:=H}
theorem zG.write_ext {M}(ok:Ok M){id o C C' H'}(ab:M.h id=some o)(aA:o.owned=true)(hC:M.κ id=some C)
    (hle:C.le C') (hH:∀b,b∉C.fp→H'[b]? =M.H[b]?) (bX:∀b,b<M.H.size→qN H' b=qN M.H b) o':yB M (M.write id o' C' H'):=
  have qq:∀b,M.F b→b∉C.fp:=fun b hF hb=>(ok.own b ⟨id,o,C,ab,aA,hC,hb⟩).1 hF
  { κ:=fun n D h=>by
      by_cases e:n=id
      · subst e
        rw[hC] at h
        cases h
        exact⟨C',κset_same _ _ _,hle⟩
      · exact⟨D,by simp[zG.write];rw[κset_ne _ _ e];exact h,D.le_refl⟩
    F:=fun _ h=>h
    G:=fun _ h=>h
    same:=fun b h=>hH b (qq b h)
    sameG:=fun b h=>hH b (qq b (ok.GF b h))
    bsz:=bX}
theorem zG.write_ok {M}(ok:Ok M){id o o' C C' H'}(ab:M.h id=some o)(aA:o.owned=true)(hC:M.κ id=some C)
  (hle:C.le C') (mN:∀b∈C'.fp,b∈C.fp) (cM:H'.size=M.H.size) (hH:∀b,b∉C.fp→H'[b]? =M.H[b]?) (bX:∀b,b<M.H.size→qN H' b=qN M.H b)
  (hO:yJ (M.write id o' C' H') o' C'):Ok (M.write id o' C' H')∧yL M (M.write id o' C' H'):=by
 have x:=zG.write_ext ok ab aA hC hle hH bX o'
 have oA:∀b,qF (M.write id o' C' H') b→qF M b:=by
  rintro b ⟨n,q,D,h1,h2,h3,h4⟩
  by_cases e:n=id
  ·subst e
   simp[zG.write,κset_same] at h1 h3
   subst h3
   exact⟨n,o,C,ab,aA,hC,mN b h4⟩
  ·simp[zG.write] at h1 h3
   rw[yE _ _ e] at h1;rw[κset_ne _ _ e] at h3
   exact⟨n,q,D,h1,h2,h3,h4⟩
 refine⟨ok.build x (· =id) (fun n hn=>yE _ _ hn) (fun n hn=>κset_ne _ _ hn) ?_ ?_ (by simp[zG.write];omega) ?_ ?_ ?_ ok.GF ?_,x,by simp[zG.write];omega,?_,?_,?_,?_⟩
 ·intro n q D hn h1 h2 h3 b hb
  exact hH b fun hc=>ok.disj n id q o D C b hn h1 ab h2 aA h3 hC hb hc
 ·intro n q D hn h1 h2 h3 b hb
  exact(ok.own b ⟨n,q,D,h1,h2,h3,hb⟩).1
 ·rintro n q rfl h1
  simp[zG.write,yA] at h1
  subst h1
  exact⟨C',κset_same _ _ _,hO⟩
 ·rintro n rfl h1
  simp only[zG.write,yA] at h1
  cases h1
 ·rintro n q D b rfl h1 h2 h3 hb
  simp[zG.write,κset_same] at h3
  subst h3
  have bh:=mN b hb
  have:=ok.own b ⟨n,o,C,ab,aA,hC,bh⟩
  refine⟨fun j oj Cj hj k1 k2 k3 k4=>?_,this.1,by simp[zG.write];omega⟩
  simp[zG.write] at k1 k3
  rw[yE _ _ hj] at k1;rw[κset_ne _ _ hj] at k3
  exact ok.disj j n oj o Cj C b hj k1 ab k2 aA k3 hC k4 bh
 ·intro b hb
  have:=ok.Flt b hb
  simp[zG.write];omega
 ·intro b hb hn
  exact hH b fun hc=>hn ⟨id,o,C,ab,aA,hC,hc⟩
 ·simp_all
 ·exact fun b h _=>.inl h
 ·exact fun b h _=>.inl h
def zG.freeze (M:zG)(id:Nat)(o:Obj)(C:zT):zG:={M with h:=qW M.h id o,F:=fun b=>M.F b∨b∈C.fp,G:=fun b=>M.G b∨b∈C.fp}
theorem zG.freeze_ok {M}(ok:Ok M){id o o' C}(ab:M.h id=some o)(aA:o.owned=true)(hC:M.κ id=some C)
  (kb:o'.owned=false) (hO:yJ (M.freeze id o' C) o' C):Ok (M.freeze id o' C)∧yL M (M.freeze id o' C):=by
 have x:yB M (M.freeze id o' C):=⟨fun _ C h=>⟨C,h,C.le_refl⟩,fun _ h=>.inl h,fun _ h=>.inl h,fun _ _=>rfl,fun _ _=>rfl,fun _ _=>rfl⟩
 have Cx:∀b∈C.fp,qF M b:=fun b hb=>⟨id,o,C,ab,aA,hC,hb⟩
 have oA:∀b,qF (M.freeze id o' C) b→qF M b:=by
  rintro b ⟨n,q,D,h1,h2,h3,h4⟩
  by_cases e:n=id
  ·subst e
   simp[zG.freeze,yA] at h1
   simp_all
  ·simp[zG.freeze] at h1
   rw[yE _ _ e] at h1
   exact⟨n,q,D,h1,h2,h3,h4⟩
 refine⟨ok.build x (· =id) (fun n hn=>yE _ _ hn) (fun n _=>rfl) (fun _ _ _ _ _ _ _ _ _=>rfl) ?_ (Nat.le_refl _) ?_ ?_ ?_ ?_ ?_,x,Nat.le_refl _,fun _ _ _=>rfl,by grind,?_,?_⟩
 ·rintro n q D hn h1 h2 h3 b hb (hF|hF)
  ·exact(ok.own b ⟨n,q,D,h1,h2,h3,hb⟩).1 hF
  ·exact ok.disj n id q o D C b hn h1 ab h2 aA h3 hC hb hF
 ·rintro n q rfl h1
  simp[zG.freeze,yA] at h1
  subst h1
  exact⟨C,hC,hO⟩
 ·rintro n rfl h1
  simp only[zG.freeze,yA] at h1
  cases h1
 ·rintro n q D b rfl h1 h2 h3 hb
  simp[zG.freeze,yA] at h1
  simp_all
 ·rintro b (h|h)
  ·exact .inl (ok.GF b h)
  ·exact .inr h
 ·rintro b (h|h)
  ·exact ok.Flt b h
  ·exact(ok.own b (Cx b h)).2
 ·rintro b (h|h) _
  all_goals simp_all
 ·rintro b (h|h) _
  all_goals simp_all
end Go.Ab
set_option linter.unusedSimpArgs false
namespace Go.Ab
def GO:List (Bool×zO×yO)→zO→yO→Prop
 |[],_,_=>False
 |(c,a,b)::l,v,u=>(c=true∧v=a∧u=b)∨(c=false∧GO l v u)
def qX (s:yG)(v:zO)(u:yO):Prop:=match s with
 |.alts l=>GO l v u
 |.call _ x f=>∃r,x=some r∧v=(f r).1∧u=(f r).2
 |.call2 _ _ x f g=>(∃r,x=some (.inl r)∧v=(f r).1∧u=(f r).2)∨(∃r,x=some (.inr r)∧v=(g r).1∧u=(g r).2)
theorem VW {R K}{out:R}:∀{l},K6 K l=some out→∃v u,GO l v u∧K v u=some out
 |(c,a,b)::l,h=>by
  cases c with
  |true=>exact⟨a,b,.inl (by simp),h⟩
  |false=>
   obtain⟨v,u,h1,h2⟩:=VW (l:=l) h
   exact⟨v,u,.inr (by grind),h2⟩
theorem yG.elim_some {R s K}{out:R}(h:s.elim K=some out):∃v u,qX s v u∧K v u=some out:=by
 cases s with
 |alts l=>exact VW h
 |call X x f=>
  simp[yG.elim,Option.bind_eq_some_iff] at h
  obtain⟨r,h1,h2⟩:=h
  exact⟨_,_,⟨r,h1,rfl,rfl⟩,h2⟩
 |call2 X Y x f g=>
  simp[yG.elim,Option.bind_eq_some_iff] at h
  obtain⟨r,h1,h2⟩:=h
  cases r with
  |inl r=>exact⟨_,_,.inl ⟨r,h1,rfl,rfl⟩,h2⟩
  |inr r=>exact⟨_,_,.inr ⟨r,h1,rfl,rfl⟩,h2⟩
theorem vQ {v a u}(h:qX (.one a) v u):v=a∧u=[]:=by
 rcases h with⟨_,h1,h2⟩|⟨h,_⟩
 all_goals simp_all
theorem ke {c v a u}(h:qX (.when c a) v u):c=true∧v=a∧u=[]:=by
 rcases h with h|⟨_,h⟩
 ·exact h
 ·exact h.elim
theorem dN {c v a u b}(h:qX (.alts [(c,a,b)]) v u):c=true∧v=a∧u=b:=by
 rcases h with h|⟨_,h⟩
 ·exact h
 ·exact h.elim
theorem Ly {x v u}(h:qX (.ofO x) v u):x=some v∧u=[]:=by
 cases x with
 |none=>exact h.elim
 |some a=>
  obtain⟨rfl,rfl⟩:=vQ h
  simp
section
variable {P:Program} (w:World)
theorem GP {t d}(h:P.underlying t=some d):∃i,P.info? t=some i:=by
 unfold Program.underlying at h
 grind
theorem LA {t i}(h:P.info? t=some i):P.cellsOf t=i.size:=by simp[Program.cellsOf,h]
theorem yUb {t i}(h:P.info? t=some i):P.bytesOf t=i.bytes:=by simp[Program.bytesOf,h]
theorem kM {t}(h:0<P.cellsOf t):∃i,P.info? t=some i:=by
 cases hi:P.info? t with
 |none=>simp[Program.cellsOf,hi] at h
 |some i=>simp
theorem LB {t i}(h:P.info? t=some i):(typeInfo t).run P w=.ok i w:=by simp[typeInfo,h]
theorem eY {t i}(h:P.info? t=some i):(sizeOf t).run P w=.ok (P.cellsOf t) w:=by
 rw[LA h];simp[sizeOf,typeInfo,h]
theorem oB {t b}(h:jD P t=some b):(∃d,P.underlying t=some d)∧(isAgg t).run P w=.ok b w:=by
 unfold jD at h
 cases hd:P.underlying t with
 |none=>simp_all
 |some d=>
  rw[hd] at h
  cases d<;>simp at h<;>subst h<;>simp[isAgg,run_underlying hd]
theorem VX {t cs}(h:zeroCells P t=some cs):∃i v,P.info? t=some i∧i.zero=some v∧v.cells.size=i.size∧v.cells.toList.all ta=true∧cs=v.cells.toList.map sZ:=by
 unfold zeroCells at h
 split at h
 ·rename_i i hi
  split at h
  ·rename_i v hv
   cases hb:(Nat.beq v.cells.size i.size&&v.cells.toList.all ta) with
   |false=>grind
   |true=>
    rw[hb] at h
    simp_all
  ·cases h
 ·cases h
end
theorem yWf {v}(h:ta v=true):v.one1=true:=by cases v<;>first|rfl|cases h
theorem tu {v:Value}(h:v.one1=true):v.oneCell'=true:=by cases v<;>first|rfl|cases h
theorem VY M {v}(h:v.one1=true):zQ M (sZ v) v:=by
 unfold sZ
 split<;>first|rfl|exact h
theorem GQ M:∀{l},l.all ta=true→zI (zQ M) (l.map sZ) l
 |[],_=>trivial
 |v::l,h=>by
  simp only[List.all_cons,Bool.and_eq_true] at h
  exact⟨VY M (yWf h.1),GQ M h.2⟩
theorem yNl M v:zN M (K7 v) v:=by
 unfold K7
 split
 ·rename_i cs
  cases hb:cs.toList.all ta with
  |false=>trivial
  |true=>exact⟨cs,rfl,GQ M hb⟩
 ·trivial
 ·exact VY M (by cases v<;>first|rfl|simp_all|simp_all)
def qD (P:Program)(s:Sem Value)(M:zG)(w:World)(v:zO)(u:yO):Prop:=
 ∃rv w' M',s.run P w=.ok rv w'∧w'.os=w.os∧w'.tape=w.tape∧w'.output=w.output∧M'.H=w'.heap∧M'.h=qA M.h u∧Ok M'∧yL M M'∧zN M' v rv
theorem qD.pure {P s M w v rv}(ok:Ok M)(hM:M.H=w.heap)(h:s.run P w=.ok rv w)(hv:zN M v rv):qD P s M w v []:=
 ⟨rv,w,M,h,rfl,rfl,rfl,hM,rfl,ok,yL.refl M,hv⟩
theorem xn sh:∀t x,(cellsOf sh t x).length=t.size
 |.int _,_|.bool,_|.sl _,_=>rfl
 |.pair a b,p=>by simp[cellsOf,xn sh a,xn sh b,Ty.size]
theorem GR M sh:∀t x rd,zU M.H (bif sh then M.G else M.F) t x rd→
  ∀j h,∃v,rd j=some v∧zQ M (cellsOf sh t x)[j] v
 |.int k,n,rd,h,j,hj
 |.bool,n,rd,h,j,hj=>by
  simp[cellsOf] at hj
  obtain rfl:j=0:=by omega
  exact⟨_,h,rfl⟩
 |.sl t,xs,rd,h,j,hj=>by
  simp[cellsOf] at hj
  obtain rfl:j=0:=by omega
  obtain⟨A,n,c,h1,h2⟩:=h
  refine⟨_,h1,?_⟩
  show zU _ _ _ _ _
  simp[zU]
  grind
 |.pair a b,p,rd,h,j,hj=>by
  simp[cellsOf,xn] at hj
  by_cases aT:j<(cellsOf sh a p.1).length
  ·obtain⟨v,h1,h2⟩:=GR M sh a p.1 rd h.1 j aT
   refine⟨v,h1,?_⟩
   simp[cellsOf,List.getElem_append_left aT]
   exact h2
  ·have fZ:=aT
   rw[xn] at fZ
   obtain⟨v,h1,h2⟩:=GR M sh b p.2 _ h.2 (j-a.size) (by rw[xn];omega)
   refine⟨v,by grind,?_⟩
   have kN:(cellsOf sh a p.1).length≤j:=by omega
   simp[cellsOf,List.getElem_append_right kN]
   simp[xn]
   exact h2
theorem Cy {cells vs off n}(h:iQ cells off n=some vs):off+n≤cells.length∧vs=(cells.drop off).take n∧vs.length=n:=by
 unfold iQ at h
 cases hb:Nat.ble (off+n) cells.length with
 |false=>simp_all
 |true=>
  have:=Nat.le_of_ble_eq_true hb
  grind
theorem LC {agg vs v}(h:mJ agg vs=some v):(agg=some true∧v=.agg vs)∨(agg=some false∧∃c,vs=[c]∧v=.c c):=by
 unfold mJ at h
 grind
theorem VZ {P M w}(ok:Ok M)(hM:M.H=w.heap){t B o cells vs off v}
  (dO:∀j h,∃u,yD M.H B (o+j)=some u∧zQ M cells[j] u)
  (cZ:iQ cells off (P.cellsOf t)=some vs) (hp:mJ (jD P t) vs=some v):
  ∃rv,(loadVar t ⟨B,o+off,none⟩).run P w=.ok rv w∧zN M v rv:=by
 obtain⟨h1,h2,h3⟩:=Cy cZ
 have cF:∀j,j<vs.length→∃u,w.cell? ⟨B,o+off+j,none⟩=some u∧∃c,vs[j]? =some c∧zQ M c u:=by
  intro j hj
  obtain⟨u,k1,k2⟩:=dO (off+j) (by omega)
  refine⟨u,by rw[oz,←hM,Nat.add_assoc];exact k1,cells[off+j],?_,k2⟩
  grind
 rcases LC hp with⟨cO,rfl⟩|⟨cO,c,rfl,rfl⟩
 ·obtain⟨⟨d,hd⟩,hr⟩:=oB (P:=P) w cO
  obtain⟨i,hi⟩:=GP hd
  have hf:∃us:List Value,us.length=vs.length∧∀j (h:j<vs.length),∃u c,us[j]? =some u∧w.cell? ⟨B,o+off+j,none⟩=some u∧vs[j]? =some c∧zQ M c u:=by
   refine⟨(List.range vs.length).map fun j=>(w.cell? ⟨B,o+off+j,none⟩).getD undef,by simp,fun j h=>?_⟩
   grind
  obtain⟨us,hl,kO⟩:=hf
  have iV := run_loadCells_list (P := P) w ⟨B, o + off, none⟩ us (fun j u hu=>by
   have hj:j<us.length:=by
    grind
   obtain⟨u',c,k1,k2,_⟩:=kO j (by omega)
   rw[hu] at k1;cases k1
   rw[Addr.add_lit];exact k2)
  refine⟨.agg us.toArray,?_,?_⟩
  ·rw[hl,h3] at iV
   simp[loadVar,hr,eY w hi,iV]
  ·refine⟨us.toArray,rfl,zI.of_get (by simp_all) fun j k1 k2=>?_⟩
   grind
 ·obtain⟨⟨d,hd⟩,hr⟩:=oB (P:=P) w cO
  obtain⟨u,k1,c',k2,k3⟩:=cF 0 (by simp)
  simp at k2
  subst k2
  refine⟨u,?_,k3⟩
  simp at k1
  simp[loadVar,hr,k1]
theorem GS {P M w}(ok:Ok M)(hM:M.H=w.heap){t B o cells vs off v}
  (dO:∀j h,∃u,yD M.H B (o+j)=some u∧zQ M cells[j] u)
  (cZ:iQ cells off (P.cellsOf t)=some vs) (hp:mJ (jD P t) vs=some v):
  qD P (loadVar t ⟨B,o+off,none⟩) M w v []:=by
 obtain⟨rv,h1,h2⟩:=VZ (w:=w) ok hM dO cZ hp
 exact .pure ok hM h1 h2
theorem ga P w a:(Instr.sureAddr (.pointer (some a))).run P w=.ok a w:=rfl
theorem V0 {M own cells C}(h:yJ M (.box own cells) C):∃B,C.blk=some B∧∀j h,∃u,yD M.H B (0+j)=some u∧zQ M cells[j] u:=by
 obtain⟨B,vals,e,h1,h2,h3,h4,h5⟩:=h
 refine⟨B,h1,fun j hj=>?_⟩
 have hl:=h4.length
 have iW:j<vals.size:=by simp_all
 refine⟨vals[j],?_,?_⟩
 ·simp[yD,h3]
 ·have:=h4.get j hj (by omega)
  simp_all
theorem yWz {M cells C}(h:yJ M (.robox cells) C):∃B,C.blk=some B∧∀j h,∃u,yD M.H B (0+j)=some u∧zQ M cells[j] u:=by
 obtain⟨B,vals,e,h1,h2,h3,h4,h5⟩:=h
 refine⟨B,h1,fun j hj=>?_⟩
 have hl:=h4.length
 have iW:j<vals.size:=by simp_all
 refine⟨vals[j],?_,?_⟩
 ·simp[yD,h3]
 ·have:=h4.get j hj (by omega)
  simp_all
theorem vD5 {M own t xs C}(h:yJ M (.arr own t xs) C){i}(hi:i<xs.length):∃B,C.blk=some B∧
  ∀j h,∃u,yD M.H B (i*C.sz+j)=some u∧zQ M (cellsOf true t (xs.getD i t.dflt))[j] u:=by
 obtain⟨h1,h2,h3,h4⟩:=h
 cases hB:C.blk with
 |none=>simp_all
 |some B=>
  rw[hB] at h4
  obtain⟨vals,e,h5,h6,h7,h8⟩:=h4
  refine⟨B,rfl,fun j hj=>?_⟩
  have:=GR M true t xs[i] _ (h8 i hi) j (by simp_all)
  obtain⟨v,k1,k2⟩:=this
  refine⟨v,?_,?_⟩
  ·rw[h2];simp[yD,h5];exact k1
  simp_all
theorem GU {P t cells off v u}(h:qX (Co P t cells off) v u):
  ∃vs,iQ cells off (P.cellsOf t)=some vs∧mJ (jD P t) vs=some v∧u=[]:=by
 obtain⟨h',rfl⟩:=Ly h
 rw[Option.bind_eq_some_iff] at h'
 simp_all
theorem iT.one {H rb n v}(h:iT H rb n v):v.one1=true:=by
 cases rb with
 |none=>obtain⟨rfl,_⟩:=h;rfl
 |some R=>obtain⟨a,c,rfl,_⟩:=h;rfl
theorem xo {M ver xs C}(h:yJ M (.mat ver xs) C){i} hi:∃B rb v,C.blk=some B∧C.ver=ver∧
  C.rows[i]? =some (rb,xs[i].length)∧yD M.H B i=some v∧iT M.H rb xs[i].length v∧(∀R,rb=some R→∀j (h':j<xs[i].length),yD M.H R j=some (.int .i64 xs[i][j])):=by
 obtain⟨q1,q2,q3,q4,q5,q6⟩:=h
 cases hB:C.blk with
 |none=>grind
 |some B=>
  rw[hB] at q6
  obtain⟨vals,e,q7,q8,q9⟩:=q6
  obtain⟨rb,v,k1,k2,k3,k4⟩:=q9 i hi
  refine⟨B,rb,v,rfl,q1,k1,by simp[yD,q7];exact k2,k3,fun R hR j hj=>?_⟩
  obtain⟨rv,er,k5,k6⟩:=k4 R hR
  simp[yD];simp_all
theorem vDy {P M w}(ok:Ok M)(hM:M.H=w.heap){t a v u ra}(ha:zN M a ra)
  (h:qX (wx P M.h t a) v u):qD P (Instr.loadAt t ra) M w v u:=by
 unfold wx at h
 split at h
 ·split at h
  ·rename_i own cells ab
   obtain⟨vs,h1,h2,rfl⟩:=GU h
   obtain⟨C,B,hC,hB,rfl⟩:=ha
   obtain⟨C',au,hO⟩:=ok.obj _ _ ab
   rw[hC] at au;cases au
   obtain⟨B',gb,av⟩:=V0 hO
   rw[hB] at gb;cases gb
   have:=GS (P:=P) ok hM (t:=t) (o:=0) av h1 h2
   simpa[Instr.loadAt,qD,ga] using this
  ·rename_i cells ab
   obtain⟨vs,h1,h2,rfl⟩:=GU h
   obtain⟨C,B,hC,hB,rfl⟩:=ha
   obtain⟨C',au,hO⟩:=ok.obj _ _ ab
   rw[hC] at au;cases au
   obtain⟨B',gb,av⟩:=yWz hO
   rw[hB] at gb;cases gb
   have:=GS (P:=P) ok hM (t:=t) (o:=0) av h1 h2
   simpa[Instr.loadAt,qD,ga] using this
  ·exact h.elim
 ·rename_i sh ty x off
  obtain⟨vs,h1,h2,rfl⟩:=GU h
  obtain⟨B,o,rfl,hB,hE⟩:=ha
  have:=GS (P:=P) ok hM (t:=t) (B:=B) (o:=o) (fun j hj=>GR M sh ty x _ hE j hj) h1 h2
  simpa[Instr.loadAt,qD,ga] using this
 ·rename_i id i off
  split at h
  ·rename_i own ty xs ab
   obtain⟨vs,h1,h2,rfl⟩:=GU h
   obtain⟨C,B,hC,hB,hi,rfl⟩:=ha
   obtain⟨C',au,hO⟩:=ok.obj _ _ ab
   rw[hC] at au;cases au
   obtain⟨B',gb,av⟩:=vD5 hO (i:=i) (by rw[←hO.1];exact hi)
   rw[hB] at gb;cases gb
   have:=GS (P:=P) ok hM (t:=t) av h1 h2
   simpa[Instr.loadAt,qD,ga] using this
  ·exact h.elim
 ·rename_i id i
  split at h
  ·rename_i ver xs ab
   split at h
   ·rename_i cO
    obtain⟨rfl,rfl⟩:=vQ h
    obtain⟨C,B,hC,hB,hi,rfl⟩:=ha
    obtain⟨C',au,hO⟩:=ok.obj _ _ ab
    rw[hC] at au;cases au
    obtain⟨B',rb,x,k0,kv,k1,k2,k3,k4⟩:=xo hO (i:=i) (by rw[←hO.2.1];exact hi)
    rw[hB] at k0;cases k0
    obtain⟨_,hr⟩:=oB (P:=P) w cO
    have yD:w.cell? ⟨B,i,none⟩=some x:=by rw[oz,←hM];exact k2
    exact qD.pure ok hM (rv:=x) (by simp[Instr.loadAt,ga,loadVar,hr,yD]) ⟨C,hC,k3.one,by omega,by grind⟩
   ·exact h.elim
  ·exact h.elim
 ·rename_i id i j ver
  split at h
  ·rename_i v' xs ab
   cases hv:Nat.beq v' ver with
   |false=>rw[hv] at h;exact h.elim
   |true=>
    rw[hv] at h
    have hv:=Nat.eq_of_beq_eq_true hv
    subst hv
    split at h
    ·rename_i cO
     obtain⟨rfl,rfl⟩:=vQ h
     obtain⟨C,hC,h1,hle,hm⟩:=ha
     obtain⟨C',au,hO⟩:=ok.obj _ _ ab
     rw[hC] at au;cases au
     obtain⟨R,rl,k1,k2,rfl⟩:=hm hO.1
     have hi:i<xs.length:=by
      rw[←hO.2.2.2.1]
      grind
     obtain⟨B',rb,x,q0,qv,q1,q2,q3,q4⟩:=xo hO hi
     rw[k1] at q1
     cases q1
     obtain⟨_,hr⟩:=oB (P:=P) w cO
     have yD:w.cell? ⟨R,j,none⟩=some (.int .i64 xs[i][j]):=by rw[oz,←hM];exact by grind
     refine qD.pure ok hM (rv:=.int .i64 xs[i][j]) (by simp[Instr.loadAt,ga,loadVar,hr,yD]) ?_
     show _=_
     simp[List.getD,hi,k2]
    ·exact h.elim
  ·exact h.elim
 ·exact h.elim
theorem gK h:∀u v,qA h (u++v)=qA (qA h u) v
 |[],_=>rfl
 |(id,o)::u,v=>gK (qW h id o) u v
theorem LD h id o:qA h [(id,o)]=qW h id o:=rfl
theorem xp {h id o}(e:h id=some o):qW h id o=h:=by
 funext n
 by_cases hn:n=id
 ·subst hn;rw[yA];simp_all
 ·rw[yE _ _ hn]
theorem LF:∀vs cells off out,tc cells off vs=some out→
  (vs=[]∨off+vs.length≤cells.length)∧out=cells.take off++vs++cells.drop (off+vs.length)
 |[],cells,off,out,h=>by
  simp[tc] at h
  simp_all
 |v::vs,cells,off,out,h=>by
  unfold tc at h
  cases hb:Nat.blt off cells.length with
  |false=>simp_all
  |true=>
   rw[hb] at h
   have aT:off<cells.length:=Nat.le_of_ble_eq_true hb
   obtain⟨h1,h2⟩:=LF vs (cells.set off v) (off+1) out h
   refine⟨by grind,?_⟩
   have e1:(cells.set off v).take (off+1)=cells.take off++[v]:=by
    rw[List.take_succ_eq_append_getElem (by simp_all),List.take_set_of_le (by simp)]
    simp
   have e2:(cells.set off v).drop (off+1+vs.length)=cells.drop (off+(v::vs).length):=by
    rw[List.drop_set_of_lt (by omega)]
    grind
   simp_all
theorem GV {M v rv vs}(h:kI v=some vs)(hv:zN M v rv):zI (zQ M) vs rv.cells.toList:=by
 unfold kI at h
 split at h
 ·cases h
  have h1:=zQ.one hv
  have:rv.cells=#[rv]:=by cases rv<;>first|rfl|cases h1
  rw[this]
  exact⟨hv,trivial⟩
 ·cases h
  obtain⟨us,rfl,h⟩:=hv
  exact h
 ·cases h
theorem LG {M}:∀{vs us},zI (zQ M) vs us→∀u∈us,u.one1=true
 |[],[],_,_,h=>by cases h
 |_::_,u::us,hh,x,h=>by
  cases h with
  |head=>exact hh.1.one
  |tail _ h=>exact LG hh.2 x h
def iX (P:Program)(s:Sem Unit)(M:zG)(w:World)(u:yO):Prop:=
 ∃w' M',s.run P w=.ok () w'∧w'.os=w.os∧w'.tape=w.tape∧w'.output=w.output∧M'.H=w'.heap∧M'.h=qA M.h u∧Ok M'∧yL M M'
def yF (vals:Array Value)(off:Nat)(us:List Value):Array Value:=(vals.toList.take off++us++vals.toList.drop (off+us.length)).toArray
theorem dP {vals off us}(h:off+us.length≤vals.size):(yF vals off us).size=vals.size:=by
 simp[yF];omega
theorem wU {vals off us}(h:off+us.length≤vals.size) j:
  (yF vals off us)[j]? =if j<off then vals[j]? else if j<off+us.length then us[j-off]? else vals[j]? :=by
 simp[yF]
 grind
theorem kP {w:World}{B vals new e}(h:w.heap[B]? =some (.cells vals e (0,0)))(hs:new.size=vals.size):
  (w.setRow B new).heap.size=w.heap.size∧(w.setRow B new).heap[B]? =some (.cells new e (0,0))∧(∀b,b≠B→(w.setRow B new).heap[b]? =w.heap[b]?)∧
  (∀b,qN (w.setRow B new).heap b=qN w.heap b):=by
 have h1:=setRow_heap w B vals new e (0,0) h
 have h2:∀b,b≠B→(w.setRow B new).heap[b]? =w.heap[b]? :=fun b hb=>setRow_other w B b new hb
 refine⟨by simp,h1,h2,fun b=>?_⟩
 by_cases hb:b=B
 ·subst hb;simp[qN,h1,h];exact hs
 ·exact xm (h2 b hb)
theorem LH {P w t B off vals e rv}(h:w.heap[B]? =some (.cells vals e (0,0)))
  (hn:rv.cells.size=P.cellsOf t) (h0:0<P.cellsOf t) (ax:off+rv.cells.size≤vals.size) (h1:∀u∈rv.cells.toList,u.one1=true):
  (storeVar t ⟨B,off,none⟩ rv).run P w=.ok () (w.setRow B (yF vals off rv.cells.toList)):=by
 obtain⟨i,hi⟩:=kM h0
 have cP:=run_storeCells_at (P:=P) B off e rv.cells.toList 0 vals w h (by omega) (fun v hv=>tu (h1 v hv))
 have:¬rv.cells.size≠P.cellsOf t:=by omega
 simp only[storeVar,Sem.run_bind,eY w hi,Result.andThen_ok,this]
 exact cP
theorem LI {M M'}(x:yB M M'){cells vs vals us off}(h:zI (zQ M) cells vals.toList)(hv:zI (zQ M) vs us)
  (ax:off+us.length≤vals.size):zI (zQ M') (cells.take off++vs++cells.drop (off+vs.length)) (yF vals off us).toList:=by
 have hl:=hv.length
 rw[hl]
 exact((h.take off).append hv|>.append (h.drop _)).mono fun _ _ hc=>hc.ext x
def wI (h0 h:Hp):Prop:=∀id,h id=h0 id∨(∃own t xs,h0 id=some (.arr own t xs)∧h id=some (.arr false t xs))∨
 (∃ver xs,h0 id=some (.mat ver xs)∧h id=some (.arr false (.sl (.int .i64)) xs))
theorem wI.refl h:wI h h:=fun _=>.inl rfl
theorem xq {α}{xs:List α}{lo n}(h:lo+n≤xs.length):(qQ xs lo n).length=n:=by
 simp[qQ];omega
theorem GW {α}{xs:List α}{lo n i} h:∃h':lo+i<xs.length,(qQ xs lo n)[i]=xs[lo+i]:=by
 have:lo+i<xs.length:=by simp[qQ] at h;omega
 exact⟨this,by simp[qQ]⟩
theorem V1 {H G C t xs lo n v}(cM:C.sz=t.size)(hn:lo+n≤xs.length)(h:wJ H C lo n v)
  (hx:match C.blk with
   |none=>xs=[]
   |some B=>G B∧∃vals e,H[B]? =some (.cells vals e (0,0))∧∀i h,zU H G t xs[i] (fun j=>vals[i*t.size+j]?)):
  zU H G (.sl t) (qQ xs lo n) (fun _=>some v):=by
 obtain⟨A,c,rfl,h⟩:=h
 cases hB:C.blk with
 |none=>
  rw[hB] at h hx
  obtain⟨rfl,rfl,rfl⟩:=h
  exact⟨none,0,0,rfl,by rfl,by simp,.inl ⟨by rfl,by simp⟩⟩
 |some B=>
  rw[hB] at h hx
  obtain⟨hc,a,rfl,ha,ax⟩:=h
  obtain⟨hG,vals,e,hv,hE⟩:=hx
  have hl:=xq hn
  refine⟨_,n,c,rfl,hl.symm,hc,?_⟩
  by_cases h0:n=0
  ·simp_all
  ·refine .inr ⟨B,a,rfl,hG,fun i hi=>?_⟩
   obtain⟨bj,e1⟩:=GW hi
   have mO:a=lo*C.sz:=by omega
   have e2:(fun j=>yD H B (a+i*t.size+j))=fun j=>vals[(lo+i)*t.size+j]? :=by
    rw[mO,cM,←Nat.add_mul]
    simp[yD,hv]
   simp_all
theorem V2 {α}(xs:List α):qQ xs 0 xs.length=xs:=by simp[qQ]
theorem tv {M t xs C id r v}(hC:M.κ id=some C)(hO:yJ M (.arr false t xs) C)(h:zQ M (.osl id r) v):
  zU M.H M.G (.sl t) (fz xs r) (fun _=>some v):=by
 obtain⟨h1,h2,h3,h4⟩:=hO
 obtain⟨C',au,h⟩:=h
 rw[hC] at au;cases au
 have hx:match C.blk with
   |none=>xs=[]
   |some B=>M.G B∧∃vals e,M.H[B]? =some (.cells vals e (0,0))∧∀i (h:i<xs.length),zU M.H M.G t xs[i] (fun j=>vals[i*t.size+j]?):=by
  grind
 cases r with
 |none=>
  have:=V1 (G:=M.G) h2 (lo:=0) (n:=C.len) (by omega) h hx
  rw[h1,V2] at this
  exact this
 |some p=>
  obtain⟨h5,h6,_⟩:=h
  exact V1 (G:=M.G) h2 (by omega) h6 hx
theorem V3 {M}(ok:Ok M){id t xs}(ab:M.h id=some (.arr true t xs)):
  ∃M',M'.H=M.H∧M'.h=qW M.h id (.arr false t xs)∧Ok M'∧yL M M'∧M'.κ=M.κ:=by
 obtain⟨C,hC,hO⟩:=ok.obj id _ ab
 have oC:yJ (M.freeze id (.arr false t xs) C) (.arr false t xs) C:=by
  have x:yB M (M.freeze id (.arr false t xs) C):=⟨fun _ C h=>⟨C,h,C.le_refl⟩,fun _ h=>.inl h,fun _ h=>.inl h,fun _ _=>rfl,fun _ _=>rfl,fun _ _=>rfl⟩
  obtain⟨h1,h2,h3,h4⟩:=hO.ext x fun _ _ _=>rfl
  refine⟨h1,h2,by simp,?_⟩
  cases hB:C.blk with
  |none=>simp_all
  |some B=>
   rw[hB] at h4
   obtain⟨vals,e,h5,h6,h7,h8⟩:=h4
   exact⟨vals,e,h5,fun _=>.inr (by simp[zT.fp,hB]),h7,h8⟩
 have:=zG.freeze_ok ok ab rfl hC rfl oC
 exact⟨M.freeze id _ C,rfl,rfl,this.1,this.2,rfl⟩
theorem V4 {M}(ok:Ok M){id t xs}(ab:M.h id=some (.arr true t xs)):
  ∃M',M'.H=M.H∧M'.h=qW M.h id (.arr false t xs)∧Ok M'∧yL M M':=by
 obtain⟨M',h1,h2,h3,h4,_⟩:=V3 ok ab
 grind
theorem V5 {M}(ok:Ok M){id ver xs}(ab:M.h id=some (.mat ver xs)):
  ∃M',M'.H=M.H∧M'.h=qW M.h id (.arr false (.sl (.int .i64)) xs)∧Ok M'∧yL M M'∧M'.κ=M.κ:=by
 obtain⟨C,hC,hO⟩:=ok.obj id _ ab
 have oC:yJ (M.freeze id (.arr false (.sl (.int .i64)) xs) C) (.arr false (.sl (.int .i64)) xs) C:=by
  obtain⟨h1,h2,h3,h4,h5,h6⟩:=hO
  refine⟨h2,h3,by simp,?_⟩
  cases hB:C.blk with
  |none=>rw[hB] at h6;exact h6
  |some B=>
   rw[hB] at h6
   obtain⟨vals,e,h7,h8,h9⟩:=h6
   refine⟨vals,e,h7,fun _=>.inr (by simp[zT.fp,hB]),by simpa[Ty.size] using h8,fun i hi=>?_⟩
   obtain⟨rb,v,k1,k2,k3,k4⟩:=h9 i hi
   simp only[zU,Ty.size,Nat.mul_one,Nat.add_zero]
   cases rb with
   |none=>
    obtain⟨rfl,hl⟩:=k3
    grind
   |some R=>
    obtain⟨a,c,rfl,hc,ha,hs⟩:=k3
    obtain⟨rv,er,k5,k6⟩:=k4 R rfl
    by_cases bW:xs[i]=[]
    ·grind
    have kf:a=0:=by
     have:0<xs[i].length:=by grind
     omega
    subst kf
    refine⟨_,_,c,k2,rfl,hc,.inr ⟨R,0,rfl,.inr ?_,fun j hj=>?_⟩⟩
    ·simp only[zT.fp,List.mem_append]
     grind
    ·have e1:(M.freeze id (Obj.arr false (.sl (.int .i64)) xs) C).H=M.H:=rfl
     simp[e1,yD,k5,Nat.zero_add]
     exact k6 j hj
 have:=zG.freeze_ok ok ab rfl hC rfl oC
 exact⟨M.freeze id _ C,rfl,rfl,this.1,this.2,rfl⟩
theorem V6 {M}(ok:Ok M){id ver xs}(ab:M.h id=some (.mat ver xs)):
  ∃M',M'.H=M.H∧M'.h=qW M.h id (.arr false (.sl (.int .i64)) xs)∧Ok M'∧yL M M':=by
 obtain⟨M',h1,h2,h3,h4,_⟩:=V5 ok ab
 grind
theorem Cz {M}(ok:Ok M){h0}(hf:wI h0 M.h){c c' v u}(hc:zQ M c v)(h:kK h0 c=some (c',u)):
  ∃M',M'.H=M.H∧M'.h=qA M.h u∧Ok M'∧yL M M'∧zQ M' c' v∧wI h0 M'.h∧(∀p∈u,p.2.owned=false):=by
 have aae : c' = c → u = [] → _ := fun e1 e2 => (⟨M,rfl,by rw[e2];rfl,ok,yL.refl M,by simp_all,hf,by simp[e2]⟩:
  ∃M',M'.H=M.H∧M'.h=qA M.h u∧Ok M'∧yL M M'∧zQ M' c' v∧wI h0 M'.h∧(∀p∈u,p.2.owned=false))
 cases c with
 |osl id r=>
  have key:∀(t:Ty) (xs:List t.den),(∀M',Ok M'→M'.h id=some (.arr false t xs)→zQ M' (.osl id r) v→zQ M' (.fsl true t (fz xs r)) v):=by
   intro t xs M' gd lN hY
   obtain⟨C,hC,hO⟩:=gd.obj id _ lN
   exact tv hC hO hY
  unfold kK at h
  simp only at h
  split at h
  ·rename_i own t xs hZ
   cases h
   rcases hf id with e|⟨o2,t2,LJ,e1,e2⟩|⟨ver,LJ,e1,e2⟩
   ·rw[hZ] at e
    cases own with
    |true=>
     obtain⟨M',h1,h2,gd,bx⟩:=V4 ok e
     refine⟨M',h1,h2,gd,bx,key t xs M' gd (by rw[h2];exact yA _ _ _) (hc.ext bx.ext),fun n=>?_,by simp[Obj.owned]⟩
     by_cases hn:n=id
     ·subst hn
      exact .inr (.inl ⟨true,t,xs,hZ,by rw[h2];exact yA _ _ _⟩)
     ·rw[h2,yE _ _ hn];exact hf n
    |false=>exact⟨M,rfl,(xp e).symm,ok,yL.refl M,by grind,hf,by simp[Obj.owned]⟩
   ·rw[hZ] at e1;cases e1
    exact⟨M,rfl,(xp e2).symm,ok,yL.refl M,by grind,hf,by simp[Obj.owned]⟩
   simp_all
  ·rename_i ver xs hZ
   split at h
   ·cases h
    rcases hf id with e|⟨o2,t2,LJ,e1,e2⟩|⟨aaf,LJ,e1,e2⟩
    ·rw[hZ] at e
     obtain⟨M',h1,h2,gd,bx⟩:=V6 ok e
     refine⟨M',h1,h2,gd,bx,key (.sl (.int .i64)) xs M' gd (by rw[h2];exact yA _ _ _) (hc.ext bx.ext),fun n=>?_,by simp[Obj.owned]⟩
     by_cases hn:n=id
     ·subst hn
      exact .inr (.inr ⟨ver,xs,hZ,by rw[h2];exact yA _ _ _⟩)
     ·rw[h2,yE _ _ hn];exact hf n
    ·simp_all
    ·rw[hZ] at e1;cases e1
     exact⟨M,rfl,(xp e2).symm,ok,yL.refl M,key (.sl (.int .i64)) xs M ok e2 hc,hf,by simp[Obj.owned]⟩
   ·cases h
  ·cases h
 |mrow _ _ _=>cases h
 |_=>cases h;simp_all
theorem LK {h0}:∀{cs aE vs u M},Ok M→wI h0 M.h→zI (zQ M) cs vs→j6 h0 cs=some (aE,u)→
  ∃M',M'.H=M.H∧M'.h=qA M.h u∧Ok M'∧yL M M'∧zI (zQ M') aE vs∧wI h0 M'.h∧(∀p∈u,p.2.owned=false)
 |[],aE,[],u,M,ok,hf,_,h=>by cases h;exact⟨M,rfl,rfl,ok,yL.refl M,trivial,hf,by simp⟩
 |c::cs,aE,v::vs,u,M,ok,hf,hc,h=>by
  unfold j6 at h
  split at h
  ·rename_i c1 u1 iY mP e1 e2
   cases h
   obtain⟨M1,a1,a2,a3,a4,a5,a6,a7⟩:=Cz ok hf hc.1 e1
   obtain⟨M2,b1,b2,b3,b4,b5,b6,b7⟩:=LK a3 a6 (hc.2.mono fun _ _ k=>k.ext a4.ext) e2
   refine⟨M2,b1.trans a1,by rw[b2,a2,gK],b3,a4.trans b4,⟨a5.ext b4.ext,b5⟩,b6,fun p hp=>?_⟩
   grind
  ·cases h
theorem gL {a b xs ys}(h:eh a b xs=some ys):∃e:a=b,e▸xs=ys:=by
 unfold eh at h
 grind
theorem LL {a b}(h:Nat.blt a b=true):a<b:=Nat.le_of_ble_eq_true h
theorem vAt {a b}(h:Nat.blt a b=false):¬a<b:=fun hh=>by
 have:Nat.blt a b=true:=Nat.ble_eq_true_of_le hh
 simp_all
theorem V7 {k off c n}(h:K8 k off c=some n):off=0∧c=.int k n:=by
 unfold K8 at h
 split at h
 ·rename_i j m
  cases hb:dv j k with
  |false=>simp_all
  |true=>
   have:=od hb
   simp_all
 ·cases h
theorem V8 {off c n}(h:K9 off c=some n):off=0∧c=.bool n:=by
 unfold K9 at h
 grind
theorem V9 {t off c xs}(h:La t off c=some xs):off=0∧(c=.fsl true t xs∨(c=.nsl∧xs=[])):=by
 unfold La at h
 split at h
 ·obtain⟨e,h⟩:=gL h
  grind
 all_goals simp_all
theorem Wa {a b p q off c}(h:oe (.pair a b) p off c=some q):
  (off<a.size∧oe a p.1 off c=some q.1∧q.2=p.2)∨(¬off<a.size∧oe b p.2 (off-a.size) c=some q.2∧q.1=p.1):=by
 simp[oe] at h
 cases hb:Nat.blt off a.size with
 |true=>
  rw[hb] at h
  split at h
  ·cases h
   simp_all
  ·cases h
 |false=>
  rw[hb] at h
  simp  at h
  split at h
  ·rename_i x hx
   cases h
   exact .inr ⟨vAt hb,hx,rfl⟩
  ·cases h
theorem Wb:∀{t x y off c},oe t x off c=some y→off<t.size
 |.int k,x,y,off,c,h=>by rw[(V7 h).1];simp[Ty.size]
 |.bool,x,y,off,c,h=>by rw[(V8 h).1];simp[Ty.size]
 |.sl t,x,y,off,c,h=>by rw[(V9 h).1];simp[Ty.size]
 |.pair a b,x,y,off,c,h=>by
  simp[Ty.size]
  rcases Wa h with⟨h1,_⟩|⟨h1,h2,_⟩
  ·omega
  ·have:=Wb h2;omega
theorem LM {M}:∀t x y off c u rd dy,zU M.H M.G t x rd→oe t x off c=some y→zQ M c u→
  dy off=some u→(∀j,j≠off→j<t.size→dy j=rd j)→zU M.H M.G t y dy
 |.int k,x,y,off,c,u,rd,dy,hE,h,hc,hr,dO=>by
  obtain⟨rfl,rfl⟩:=V7 h
  simp[zU]
  rw[hr,show u=_ from hc]
 |.bool,x,y,off,c,u,rd,dy,hE,h,hc,hr,dO=>by
  obtain⟨rfl,rfl⟩:=V8 h
  simp[zU]
  rw[hr,show u=_ from hc]
 |.sl t,x,y,off,c,u,rd,dy,hE,h,hc,hr,dO=>by
  obtain⟨rfl,rfl|⟨rfl,rfl⟩⟩:=V9 h
  ·have hY:zU M.H M.G (.sl t) y (fun _=>some u):=hc
   refine yK (by simp) (by simp) _ _ _ _ (fun j hj=>?_) hY
   simp[Ty.size] at hj
   simp_all
  ·exact⟨none,0,0,by rw[hr,show u=_ from hc],rfl,by simp,by simp⟩
 |.pair a b,x,y,off,c,u,rd,dy,hE,h,hc,hr,dO=>by
  simp[Ty.size] at dO
  rcases Wa h with⟨h1,h2,h3⟩|⟨h1,h2,h3⟩
  ·refine⟨LM a _ _ off c u rd dy hE.1 h2 hc hr (by grind),?_⟩
   rw[h3]
   exact yK (by simp) (by simp) _ _ _ _ (by grind) hE.2
  ·refine⟨?_,LM b _ _ (off-a.size) c u _ _ hE.2 h2 hc (by simp_all) (by grind)⟩
   rw[h3]
   exact yK (by simp) (by simp) _ _ _ _ (by grind) hE.1
theorem Wc {t}:∀{vs x y off},og t x off vs=some y→vs=[]∨off+vs.length≤t.size
 |[],_,_,_,_=>.inl rfl
 |v::vs,x,y,off,h=>by
  unfold og at h
  split at h
  ·rename_i z hz
   have h1:=Wb hz
   rcases Wc h with rfl|h2
   all_goals grind
  ·cases h
theorem LN {M} t:∀vs us x y off rd dy,zU M.H M.G t x rd→og t x off vs=some y→zI (zQ M) vs us→
  (∀i,i<us.length→dy (off+i)=us[i]?)→(∀j,(j<off∨off+us.length≤j)→j<t.size→dy j=rd j)→zU M.H M.G t y dy
 |[],[],x,y,off,rd,dy,hE,h,_,_,dO=>by
  cases h
  exact yK (by simp) (by simp) _ _ _ _ (by grind) hE
 |v::vs,u::us,x,y,off,rd,dy,hE,h,hc,hr,dO=>by
  unfold og at h
  split at h
  ·rename_i z hz
   have h1:=LM t x z off v u rd (fun j=>if j=off then some u else rd j) hE hz hc.1 (by simp) (by grind)
   refine LN t vs us z y (off+1) _ dy h1 h hc.2 (fun i hi=>?_) (fun j hj qs=>?_)
   ·have:=hr (i+1) (by simp;omega)
    grind
   ·by_cases e:j=off
    ·have:=hr 0 (by simp)
     simp_all
    grind
  ·cases h
theorem Wd {i k sz j:Nat}(h:i≠k)(hj:j<sz):k*sz+j<i*sz∨i*sz+sz≤k*sz+j:=by
 rcases Nat.lt_or_gt_of_ne h with h|h
 ·have:=Nat.mul_le_mul_right sz (show i+1≤k by omega)
  grind
 ·have:=Nat.mul_le_mul_right sz (show k+1≤i by omega)
  grind
theorem yM1 {C:zT}(hn:C.fp.Nodup){i k:Nat}{R R':Nat}{a b:Nat}(hi:C.rows[i]? =some (some R,a))(hk:C.rows[k]? =some (some R',b))(h:i≠k):R≠R':=by
 intro e
 subst e
 have xr:(C.rows.filterMap (·.1)).Nodup:=(List.nodup_append.1 hn).2.1
 clear hn
 have gen:∀(l:List (Option Nat×Nat)) (i k:Nat),i<k→l[i]? =some (some R,a)∨l[i]? =some (some R,b)→l[k]? =some (some R,b)∨l[k]? =some (some R,a)→(l.filterMap (·.1)).Nodup→False:=by
  intro l
  induction l with
  |nil=>intro i k _ h1 _ _;simp at h1
  |cons x l ih=>
   intro i k LO h1 h2 hn
   obtain⟨k,rfl⟩:∃m,k=m+1:=⟨k-1,by omega⟩
   have bz:R∈l.filterMap (·.1):=by
    simp only[List.getElem?_cons_succ] at h2
    rcases h2 with h2|h2<;>exact List.mem_filterMap.2 ⟨_,List.mem_of_getElem? h2,rfl⟩
   cases i with
   |zero=>
    grind
   |succ i=>
    grind
 grind
theorem LP {C:zT}(hn:C.fp.Nodup){k R B b:Nat}(hk:C.rows[k]? =some (some R,b))(hB:C.blk=some B):R≠B:=by
 intro e
 subst e
 have:=(List.nodup_append.1 hn).2.2 R (by simp[hB]) R (by grind)
 omega
theorem jT {C:zT}{B}(h:C.blk=some B):B∈C.fp:=by simp[zT.fp,h]
theorem vCq {C:zT}{k R b:Nat}(h:C.rows[k]? =some (some R,b)):R∈C.fp:=by
 simp[zT.fp]
 grind
theorem LQ {P M w}(ok:Ok M)(hM:M.H=w.heap){t id o o' C B off vals e rv}
  (ab:M.h id=some o) (aA:o.owned=true) (hC:M.κ id=some C) (hB:B∈C.fp) (hb:M.H[B]? =some (.cells vals e (0,0)))
  (hn:rv.cells.size=P.cellsOf t) (h0:0<P.cellsOf t) (ax:off+rv.cells.size≤vals.size) (h1:∀u∈rv.cells.toList,u.one1=true)
  (hO:∀M',M'.κ=κset M.κ id C→M'.F=M.F→M'.G=M.G→yB M M'→M'.H[B]? =some (.cells (yF vals off rv.cells.toList) e (0,0))→(∀b,b≠B→M'.H[b]? =M.H[b]?)→yJ M' o' C):
  iX P (storeVar t ⟨B,off,none⟩ rv) M w [(id,o')]:=by
 have bh:w.heap[B]? =some (.cells vals e (0,0)):=by simp_all
 have hr:=LH (P:=P) bh hn h0 ax h1
 obtain⟨f1,f2,f3,f4⟩:=kP bh (new:=yF vals off rv.cells.toList) (dP (by omega))
 have hH:∀b,b∉C.fp→(w.setRow B (yF vals off rv.cells.toList)).heap[b]? =M.H[b]? :=by grind
 have bX:∀b,b<M.H.size→qN (w.setRow B (yF vals off rv.cells.toList)).heap b=qN M.H b:=by grind
 have x:=zG.write_ext ok ab aA hC C.le_refl hH bX o'
 have:=zG.write_ok ok ab aA hC C.le_refl (by simp) (by rw[hM];exact f1) hH bX
  (hO (M.write id o' C _) rfl rfl rfl x f2 (fun b oD=>by rw[hM];exact f3 b oD))
 exact⟨_,_,hr,rfl,rfl,rfl,rfl,rfl,this.1,this.2⟩
theorem yQ0 {P M w}(ok:Ok M)(hM:M.H=w.heap){t id off cells bn vs B C rv}
  (ab:M.h id=some (.box true cells)) (hC:M.κ id=some C) (hB:C.blk=some B) (cB:zI (zQ M) vs rv.cells.toList) (hn:vs.length=P.cellsOf t) (h0:0<vs.length)
  (hp:tc cells off vs=some bn):iX P (storeVar t ⟨B,off,none⟩ rv) M w [(id,.box true bn)]:=by
 obtain⟨C',au,hO⟩:=ok.obj id _ ab
 rw[hC] at au;cases au
 obtain⟨B',vals,e,k1,k2,k3,k4,k5⟩:=hO
 rw[hB] at k1;cases k1
 obtain⟨p1,p2⟩:=LF vs cells off bn hp
 have hl:vs.length=rv.cells.size:=by simpa using cB.length
 have ax:off+rv.cells.size≤vals.size:=by
  have:=k4.length
  grind
 refine LQ ok hM ab rfl hC (jT hB) k3 (by omega) (by omega) ax (LG cB) fun M' _ _ hG x h1 h2=>?_
 refine⟨B,_,e,hB,k2,h1,?_,by simp⟩
 rw[p2]
 exact LI x k4 cB (by omega)
theorem vAy {P M w}(ok:Ok M)(hM:M.H=w.heap){t id i off ty xs x vs B C rv}
  (ab:M.h id=some (.arr true ty xs)) (hC:M.κ id=some C) (hB:C.blk=some B) (hi:i<C.len) (cB:zI (zQ M) vs rv.cells.toList) (hn:vs.length=P.cellsOf t) (h0:0<vs.length)
  (hp:og ty (xs.getD i ty.dflt) off vs=some x):iX P (storeVar t ⟨B,i*C.sz+off,none⟩ rv) M w [(id,.arr true ty (xs.set i x))]:=by
 obtain⟨C',au,hO⟩:=ok.obj id _ ab
 rw[hC] at au;cases au
 obtain⟨k1,k2,k3,k4⟩:=hO
 rw[hB] at k4
 obtain⟨vals,e,k5,k6,k7,k8⟩:=k4
 have hl:vs.length=rv.cells.size:=by simpa using cB.length
 have aag:off+vs.length≤ty.size:=by
  rcases Wc hp with rfl|h
  ·simp at h0
  ·exact h
 have CA:i<xs.length:=by omega
 have e1:xs.getD i ty.dflt=xs[i]:=by simp[List.getD,CA]
 have aL:=Nat.mul_le_mul_right ty.size (show i+1≤xs.length by omega)
 rw[Nat.add_mul] at aL
 have ax:i*C.sz+off+rv.cells.size≤vals.size:=by rw[k2];omega
 refine LQ ok hM ab rfl hC (jT hB) k5 (by omega) (by omega) ax (LG cB) fun M' _ _ hG xt h1 h2=>?_
 refine⟨by simp_all,k2,k3,?_⟩
 rw[hB]
 refine⟨_,e,h1,by simp,by rw[List.length_set,dP (by simpa using ax)];exact k7,fun k hk=>?_⟩
 rw[List.length_set] at hk
 have GX:=yK (F:=M.G) (F':=M'.G) xt.G xt.sameG ty _ _ _ (fun _ _=>rfl) (k8 k hk)
 by_cases e2:k=i
 ·subst e2
  simp
  refine LN ty vs rv.cells.toList xs[k] x off _ _ GX (by rw[←e1];exact hp) (cB.mono fun _ _ h=>h.ext xt) (fun j hj=>?_) (fun j hj qs=>?_)
  ·rw[wU (by simpa using ax),if_neg (by rw[k2];omega),if_pos (by grind),k2]
   congr 1;omega
  ·rw[wU (by simpa using ax)]
   grind
 ·rw[List.getElem_set_ne (by grind)]
  refine yK (by simp) (by simp) ty _ _ _ (fun j hj=>?_) GX
  rw[wU (by simpa using ax)]
  rw[k2]
  rcases Wd (Ne.symm e2) hj with h|h
  all_goals grind
theorem yMf {P M w}(ok:Ok M)(hM:M.H=w.heap){t id i j ver xs n R rl C}
  (ab:M.h id=some (.mat ver xs)) (hC:M.κ id=some C) (hR:C.rows[i]? =some (some R,rl)) (hj:j<rl) (hn:1=P.cellsOf t):
  iX P (storeVar t ⟨R,j,none⟩ (.int .i64 n)) M w [(id,.mat ver (xs.set i ((xs.getD i []).set j n)))]:=by
 obtain⟨C',au,hO⟩:=ok.obj id _ ab
 rw[hC] at au;cases au
 obtain⟨k1,k2,k3,k4,k5,k6⟩:=hO
 have hi:i<xs.length:=by
  rw[←k4]
  rcases Nat.lt_or_ge i C.rows.length with h|h
  ·exact h
  ·rw[List.getElem?_eq_none h] at hR;cases hR
 cases hB:C.blk with
 |none=>rw[hB] at k6;subst k6;simp at hi
 |some B=>
  rw[hB] at k6
  obtain⟨vals,e,k7,k8,k9⟩:=k6
  obtain⟨rb,v,q1,q2,q3,q4⟩:=k9 i hi
  rw[hR] at q1
  cases q1
  obtain⟨rv,er,q5,q6⟩:=q4 R rfl
  have hRB:R≠B:=LP k5 hR hB
  have qs:j<rv.size:=by
   have:=q6 j hj
   rcases Nat.lt_or_ge j rv.size with h|h
   ·exact h
   ·rw[Array.getElem?_eq_none h] at this;cases this
  have e1:xs.getD i []=xs[i]:=by simp[List.getD,hi]
  refine LQ ok hM ab rfl hC (vCq hR) q5 (by rw[←hn];rfl) (by omega) (by show j+1≤rv.size;omega) (by intro u hu;simp[Value.cells] at hu;subst hu;rfl) fun M' _ _ hG x h1 h2=>?_
  refine⟨k1,by rw[List.length_set];exact k2,k3,by rw[List.length_set];exact k4,k5,?_⟩
  rw[hB]
  refine⟨vals,e,by rw[h2 B (Ne.symm hRB)];exact k7,by rw[List.length_set];exact k8,fun k hk=>?_⟩
  rw[List.length_set] at hk
  by_cases e2:k=i
  ·subst e2
   simp only[List.getElem_set_self,e1,List.length_set]
   refine⟨some R,v,hR,q2,q3.ext x,fun R' tw=>?_⟩
   cases tw
   refine⟨_,er,h1,fun m hm=>?_⟩
   rw[wU (by show j+1≤rv.size;omega)]
   show(if m<j then rv[m]? else if m<j+1 then[Value.int .i64 n][m-j]? else rv[m]?)=_
   grind
  ·rw[List.getElem_set_ne (Ne.symm e2)]
   obtain⟨lO,v',p1,p2,p3,p4⟩:=k9 k hk
   refine⟨lO,v',p1,p2,p3.ext x,fun R' tw=>?_⟩
   subst tw
   obtain⟨oE,CB,p5,p6⟩:=p4 R' rfl
   exact⟨oE,CB,by rw[h2 R' (yM1 k5 p1 hR e2)];exact p5,p6⟩
theorem GY {x}:∀(l:List (Option Nat×Nat)) i,(l.filterMap (·.1)).Nodup→(∀R,x.1=some R→R∉l.filterMap (·.1))→
  ((l.set i x).filterMap (·.1)).Nodup∧∀y∈(l.set i x).filterMap (·.1),y∈l.filterMap (·.1)∨x.1=some y
 |[],_,h,_=>by simp
 |a::l,0,h,hx=>by
  grind
 |a::l,i+1,h,hx=>by
  simp only[List.set_cons_succ]
  cases ha:a.1 with
  |none=>
   rw[List.filterMap_cons_none ha] at h hx⊢
   rw[List.filterMap_cons_none ha]
   exact GY l i h hx
  |some z=>
   rw[List.filterMap_cons_some ha] at h hx⊢
   obtain⟨h1,h2⟩:=List.nodup_cons.1 h
   obtain⟨k1,k2⟩:=GY l i h2 fun R hR hm=>hx R hR (by grind)
   grind
def zG.absorb (M:zG)(id jd:Nat)(o:Obj)(C:zT)(H:Array Go.Obj):zG:={M with κ:=κset M.κ id C,h:=qW (qW M.h jd .gone) id o,H:=H}
theorem zG.absorb_ok {M}(ok:Ok M){id jd o oj o' C Cj C' H'}(aV:id≠jd)(ab:M.h id=some o)(aA:o.owned=true)(hC:M.κ id=some C)
    (cj:M.h jd=some oj) (qt:oj.owned=true) (cW:M.κ jd=some Cj) (hle:C.le C') (mN:∀b∈C'.fp,b∈C.fp∨b∈Cj.fp) (cM:H'.size=M.H.size)
    (hH:∀b,b∉C.fp→H'[b]? =M.H[b]?) (bX:∀b,b<M.H.size→qN H' b=qN M.H b)
    (hO:yB M (M.absorb id jd o' C' H')→yJ (M.absorb id jd o' C' H') o' C'):Ok (M.absorb id jd o' C' H')∧yL M (M.absorb id jd o' C' H'):=by
  have qq:∀b,M.F b→b∉C.fp:=fun b hF hb=>(ok.own b ⟨id,o,C,ab,aA,hC,hb⟩).1 hF
  have x:yB M (M.absorb id jd o' C' H'):=
    { κ:=fun n D h=>by
        by_cases e:n=id
        · subst e
          rw[hC] at h
          cases h
          exact⟨C',κset_same _ _ _,hle⟩
        · exact⟨D,by simp only[zG.absorb];rw[κset_ne _ _ e];exact h,D.le_refl⟩
      F:=fun _ h=>h
      G:=fun _ h=>h
      same:=fun b h=>hH b (qq b h)
      sameG:=fun b h=>hH b (qq b (ok.GF b h))
      bsz:=bX}
  have bh:∀b∈C'.fp,qF M b:=fun b hb=>by
    rcases mN b hb with hb|hb
    · exact⟨id,o,C,ab,aA,hC,hb⟩
    · exact⟨jd,oj,Cj,cj,qt,cW,hb⟩
  have cF:∀n q,n≠id→(M.absorb id jd o' C' H').h n=some q→q.owned=true→n≠jd∧M.h n=some q:=by
    intro n q e h1 h2
    simp only[zG.absorb] at h1
    rw[yE _ _ e] at h1
    by_cases e':n=jd
    · subst e'
      rw[yA] at h1
      cases h1
      cases h2
    · rw[yE _ _ e'] at h1
      simp_all
  have oA:∀b,qF (M.absorb id jd o' C' H') b→qF M b:=by
    rintro b ⟨n,q,D,h1,h2,h3,h4⟩
    by_cases e:n=id
    · subst e
      simp only[zG.absorb,κset_same,Option.some.injEq] at h3
      simp_all
    · obtain⟨e',fB⟩:=cF n q e h1 h2
      simp only[zG.absorb] at h3
      rw[κset_ne _ _ e] at h3
      exact⟨n,q,D,fB,h2,h3,h4⟩
  refine⟨ok.build x (fun n=>n=id∨n=jd) (fun n hn=>?_) (fun n hn=>κset_ne _ _ (by grind)) ?_ ?_ (by simp only[zG.absorb];omega) ?_ ?_ ?_ ok.GF ?_,x,by simp only[zG.absorb];omega,?_,by grind,fun b h _=>.inl h,fun b h _=>.inl h⟩
  · simp only[zG.absorb]
    rw[yE _ _ (by grind),yE _ _ (by grind)]
  · intro n q D hn h1 h2 h3 b hb
    exact hH b fun hc=>ok.disj n id q o D C b (by grind) h1 ab h2 aA h3 hC hb hc
  · intro n q D hn h1 h2 h3 b hb
    exact(ok.own b ⟨n,q,D,h1,h2,h3,hb⟩).1
  · rintro n q (rfl|rfl) h1
    · simp only[zG.absorb,yA,Option.some.injEq] at h1
      subst h1
      exact⟨C',κset_same _ _ _,hO x⟩
    · simp only[zG.absorb] at h1
      rw[yE _ _ (Ne.symm aV),yA] at h1
      cases h1
      exact⟨Cj,by simp only[zG.absorb];rw[κset_ne _ _ (by grind)];omega,trivial⟩
  · rintro n (rfl|rfl) h1
    · simp only[zG.absorb,yA] at h1
      cases h1
    · simp only[zG.absorb] at h1
      rw[yE _ _ (by grind),yA] at h1
      cases h1
  · rintro n q D b (rfl|rfl) h1 h2 h3 hb
    · simp only[zG.absorb,κset_same,Option.some.injEq] at h3
      subst h3
      have hbo:=ok.own b (bh b hb)
      refine⟨fun j qj Dj hj k1 k2 k3 k4=>?_,hbo.1,by simp only[zG.absorb];omega⟩
      obtain⟨LR,xu⟩:=cF j qj hj k1 k2
      simp only[zG.absorb] at k3
      rw[κset_ne _ _ hj] at k3
      rcases mN b hb with hb|hb
      · exact ok.disj j n qj o Dj C b hj xu ab k2 aA k3 hC k4 hb
      · exact ok.disj j jd qj oj Dj Cj b LR xu cj k2 qt k3 cW k4 hb
    grind
  · intro b hb
    have:=ok.Flt b hb
    simp only[zG.absorb];omega
  · intro b hb hn
    exact hH b fun hc=>hn ⟨id,o,C,ab,aA,hC,hc⟩
theorem CC {M t xs C}(h:yJ M (.arr true t xs) C):C.rows=[]∧C.fp=C.blk.toList:=by
 have:=h.2.2.1 rfl
 exact⟨this,by simp[zT.fp,this]⟩
theorem LS {M}{ys:List Int}{C jd v}(hC:M.κ jd=some C)(hO:yJ M (.arr true (.int .i64) ys) C)(hv:zQ M (.osl jd none) v):
  iT M.H C.blk ys.length v∧∀R,C.blk=some R→∃rv er,M.H[R]? =some (.cells rv er (0,0))∧∀j (h':j<ys.length),rv[j]? =some (.int .i64 ys[j]):=by
 obtain⟨h1,h2,h3,h4⟩:=hO
 obtain⟨C',au,A,c,rfl,h⟩:=hv
 rw[hC] at au;cases au
 cases hB:C.blk with
 |none=>
  rw[hB] at h
  obtain⟨rfl,e,rfl⟩:=h
  exact⟨⟨by rw[e],by omega⟩,by simp⟩
 |some B=>
  rw[hB] at h h4
  obtain⟨hc,a,rfl,ha,hs⟩:=h
  obtain⟨vals,e,h5,h6,h7,h8⟩:=h4
  refine⟨⟨a,c,by rw[h1],by omega,by omega,by simpa[h2,Ty.size] using hs⟩,fun R hR=>?_⟩
  cases hR
  refine⟨vals,e,h5,fun j hj=>?_⟩
  have:=h8 j hj
  simpa[zU,Ty.size] using this
theorem yL4 {P M w}(ok:Ok M)(hM:M.H=w.heap){t id jd i ver xs}{ys:List Int}{B C rv}
  (ab:M.h id=some (.mat ver xs)) (hC:M.κ id=some C) (hB:C.blk=some B) (hi:i<C.len) (cj:M.h jd=some (.arr true (.int .i64) ys)) (hv:zQ M (.osl jd none) rv) (hn:1=P.cellsOf t):
  iX P (storeVar t ⟨B,i,none⟩ rv) M w [(jd,.gone),(id,.mat (ver+1) (xs.set i ys))]:=by
 obtain⟨C',au,hO⟩:=ok.obj id _ ab
 rw[hC] at au;cases au
 obtain⟨Cj,cW,kg⟩:=ok.obj jd _ cj
 obtain⟨jr,jf⟩:=CC kg
 have aV:id≠jd:=fun e=>by rw[e,cj] at ab;cases ab
 obtain⟨r1,r2⟩:=LS cW kg hv
 obtain⟨k1,k2,k3,k4,k5,k6⟩:=hO
 rw[hB] at k6
 obtain⟨vals,e,k7,k8,k9⟩:=k6
 have bh:w.heap[B]? =some (.cells vals e (0,0)):=by rw[←hM];exact k7
 have bP:=hv.one
 have av:rv.cells=#[rv]:=by cases rv<;>first|rfl|cases bP
 have ax:i+rv.cells.size≤vals.size:=by rw[av];show i+1≤vals.size;omega
 have cG:i+rv.cells.toList.length≤vals.size:=by rw[Array.length_toList];exact ax
 have hr:=LH (P:=P) (t:=t) (off:=i) (rv:=rv) bh (by rw[av];exact hn) (by omega) ax (by intro u hu;rw[av] at hu;simp at hu;subst hu;exact bP)
 obtain⟨f1,f2,f3,f4⟩:=kP bh (new:=yF vals i rv.cells.toList) (dP cG)
 have cQ:∀R,Cj.blk=some R→R∉C.fp:=fun R hR hm=>ok.disj id jd _ _ C Cj R aV ab cj rfl rfl hC cW hm (jT hR)
 have cC:=List.nodup_append.1 k5
 obtain⟨s1,s2⟩:=GY (x:=(Cj.blk,ys.length)) C.rows i cC.2.1 (fun R hR hm=>cQ R hR (by simp only[zT.fp,List.mem_append];exact .inr hm))
 let D:zT:={C with ver:=ver+1,rows:=C.rows.set i (Cj.blk,ys.length)}
 have tx:∀b∈D.fp,b∈C.fp∨b∈Cj.fp:=fun b hb=>by
  simp only[zT.fp,List.mem_append] at hb
  rcases hb with hb|hb
  ·exact .inl (by simp only[zT.fp,List.mem_append];exact .inl hb)
  ·rcases s2 b hb with hb|hb
   ·exact .inl (by simp only[zT.fp,List.mem_append];exact .inr hb)
   ·exact .inr (jT hb)
 have tz:D.fp.Nodup:=by
  refine List.nodup_append.2 ⟨cC.1,s1,fun a ha b hb e=>?_⟩
  subst e
  rcases s2 a hb with hb|hb
  ·exact cC.2.2 a ha a hb rfl
  ·exact cQ a hb (by simp only[zT.fp,List.mem_append];exact .inl ha)
 have:=zG.absorb_ok (H':=(w.setRow B (yF vals i rv.cells.toList)).heap) (o':=.mat (ver+1) (xs.set i ys)) (C':=D) ok aV ab rfl hC cj rfl cW ⟨rfl,rfl,rfl,by show C.ver≤ver+1;omega,by grind⟩ tx
  (by rw [hM]; exact f1) (fun b oD => by rw [hM]; exact f3 b fun e => oD (e ▸ jT hB)) (fun b _ => by rw [hM]; exact f4 b) (fun x=>by
   refine⟨rfl,by rw[List.length_set];exact k2,k3,by simp only[D,List.length_set];exact k4,tz,?_⟩
   have LU:D.blk=some B:=hB
   rw[LU]
   refine⟨_,e,f2,by rw[List.length_set,dP cG];exact k8,fun k hk=>?_⟩
   rw[List.length_set] at hk
   by_cases e2:k=i
   ·subst e2
    simp only[List.getElem_set_self]
    refine⟨Cj.blk,rv,?_,?_,r1.ext x,fun R hR=>?_⟩
    ·simp only[D];rw[List.getElem?_set_self (by omega)]
    ·rw[wU cG,if_neg (by omega),if_pos (by rw[av];show k<k+1;omega),av]
     simp
    ·obtain⟨oE,er,q5,q6⟩:=r2 R hR
     refine⟨oE,er,?_,q6⟩
     have:R≠B:=fun e=>cQ R hR (e▸jT hB)
     show(w.setRow B _).heap[R]? =_
     rw[f3 R this,←hM];exact q5
   ·rw[List.getElem_set_ne (Ne.symm e2)]
    obtain⟨lO,v',p1,p2,p3,p4⟩:=k9 k hk
    refine⟨lO,v',?_,?_,p3.ext x,fun R' tw=>?_⟩
    ·simp only[D];rw[List.getElem?_set_ne (Ne.symm e2)];exact p1
    ·rw[wU cG,av]
     show(if k<i then vals[k]? else if k<i+1 then _ else vals[k]?)=_
     split
     ·exact p2
     ·rw[if_neg (by omega)];exact p2
    ·subst tw
     obtain⟨oE,CB,p5,p6⟩:=p4 R' rfl
     refine⟨oE,CB,?_,p6⟩
     have:R'≠B:=LP k5 p1 hB
     show(w.setRow B _).heap[R']? =_
     rw[f3 R' this,←hM];exact p5)
 exact⟨_,_,hr,rfl,rfl,rfl,rfl,rfl,this.1,this.2⟩
theorem vC4 {P M w}(ok:Ok M)(hM:M.H=w.heap){t id jd ver n xs}{ys:List Int}{B C rv}
  (ab:M.h id=some (.pmat ver xs n)) (hC:M.κ id=some C) (hB:C.blk=some B) (hi:xs.length<C.len) (cj:M.h jd=some (.arr true (.int .i64) ys)) (hv:zQ M (.osl jd none) rv) (hn:1=P.cellsOf t):
  iX P (storeVar t ⟨B,xs.length,none⟩ rv) M w [(jd,.gone),(id,.pmat (ver+1) (xs++[ys]) n)]:=by
 obtain⟨C',au,hO⟩:=ok.obj id _ ab
 rw[hC] at au;cases au
 obtain⟨Cj,cW,kg⟩:=ok.obj jd _ cj
 obtain⟨jr,jf⟩:=CC kg
 have aV:id≠jd:=fun e=>by rw[e,cj] at ab;cases ab
 obtain⟨r1,r2⟩:=LS cW kg hv
 obtain⟨k1,k2,k3,k4,k5,k0,k6⟩:=hO
 rw[hB] at k6
 obtain⟨vals,e,k7,k8,k9⟩:=k6
 have bh:w.heap[B]? =some (.cells vals e (0,0)):=by rw[←hM];exact k7
 have bP:=hv.one
 have av:rv.cells=#[rv]:=by cases rv<;>first|rfl|cases bP
 have ax:xs.length+rv.cells.size≤vals.size:=by rw[av];show xs.length+1≤vals.size;omega
 have cG:xs.length+rv.cells.toList.length≤vals.size:=by rw[Array.length_toList];exact ax
 have hr:=LH (P:=P) (t:=t) (off:=xs.length) (rv:=rv) bh (by rw[av];exact hn) (by omega) ax (by intro u hu;rw[av] at hu;simp at hu;subst hu;exact bP)
 obtain⟨f1,f2,f3,f4⟩:=kP bh (new:=yF vals xs.length rv.cells.toList) (dP cG)
 have cQ:∀R,Cj.blk=some R→R∉C.fp:=fun R hR hm=>ok.disj id jd _ _ C Cj R aV ab cj rfl rfl hC cW hm (jT hR)
 have cC:=List.nodup_append.1 k5
 have LV:(C.rows++[(Cj.blk,ys.length)]).filterMap (·.1)=C.rows.filterMap (·.1)++Cj.blk.toList:=by
  rw[List.filterMap_append]
  cases Cj.blk<;>simp
 have s1:((C.rows++[(Cj.blk,ys.length)]).filterMap (·.1)).Nodup:=by
  rw[LV]
  refine List.nodup_append.2 ⟨cC.2.1,by cases Cj.blk<;>simp,fun x hx y hy e=>?_⟩
  subst e
  have:Cj.blk=some x:=by simpa using hy
  exact cQ x this (by simp only[zT.fp,List.mem_append];exact .inr hx)
 have s2:∀y∈(C.rows++[(Cj.blk,ys.length)]).filterMap (·.1),y∈C.rows.filterMap (·.1)∨Cj.blk=some y:=by simp
 let D:zT:={C with ver:=ver+1,rows:=C.rows++[(Cj.blk,ys.length)]}
 have tx:∀b∈D.fp,b∈C.fp∨b∈Cj.fp:=fun b hb=>by
  simp only[zT.fp,List.mem_append] at hb
  rcases hb with hb|hb
  ·exact .inl (by simp only[zT.fp,List.mem_append];exact .inl hb)
  ·rcases s2 b hb with hb|hb
   ·exact .inl (by simp only[zT.fp,List.mem_append];exact .inr hb)
   ·exact .inr (jT hb)
 have tz:D.fp.Nodup:=by
  refine List.nodup_append.2 ⟨cC.1,s1,fun a ha b hb e=>?_⟩
  subst e
  rcases s2 a hb with hb|hb
  ·exact cC.2.2 a ha a hb rfl
  ·exact cQ a hb (by simp only[zT.fp,List.mem_append];exact .inl ha)
 have:=zG.absorb_ok (H':=(w.setRow B (yF vals xs.length rv.cells.toList)).heap) (o':=.pmat (ver+1) (xs++[ys]) n) (C':=D) ok aV ab rfl hC cj rfl cW ⟨rfl,rfl,rfl,by show C.ver≤ver+1;omega,fun e=>by have:ver+1=C.ver:=e;omega⟩ tx
  (by rw [hM]; exact f1) (fun b oD => by rw [hM]; exact f3 b fun e => oD (e ▸ jT hB)) (fun b _ => by rw [hM]; exact f4 b) (fun x=>by
   refine⟨rfl,k2,k3,by simp only[D,List.length_append,k4];rfl,tz,by simp;omega,?_⟩
   have LU:D.blk=some B:=hB
   rw[LU]
   refine⟨_,e,f2,by rw[dP cG];exact k8,fun k hk=>?_⟩
   rw[List.length_append,List.length_singleton] at hk
   by_cases e2:k=xs.length
   ·subst e2
    simp only[List.getElem_concat_length]
    refine⟨Cj.blk,rv,?_,?_,r1.ext x,fun R hR=>?_⟩
    ·simp only[D];rw[List.getElem?_append_right (by omega),k4];simp
    ·rw[wU cG,if_neg (by omega),if_pos (by rw[av];show xs.length<xs.length+1;omega),av]
     simp
    ·obtain⟨oE,er,q5,q6⟩:=r2 R hR
     refine⟨oE,er,?_,q6⟩
     have:R≠B:=fun e=>cQ R hR (e▸jT hB)
     show(w.setRow B _).heap[R]? =_
     rw[f3 R this,←hM];exact q5
   ·have qu:k<xs.length:=by omega
    rw[List.getElem_append_left qu]
    obtain⟨lO,v',p1,p2,p3,p4⟩:=k9 k qu
    refine⟨lO,v',?_,?_,p3.ext x,fun R' tw=>?_⟩
    ·simp only[D];rw[List.getElem?_append_left (by omega)];exact p1
    ·rw[wU cG,av]
     rw[if_pos qu]
     exact p2
    ·subst tw
     obtain⟨oE,CB,p5,p6⟩:=p4 R' rfl
     refine⟨oE,CB,?_,p6⟩
     have:R'≠B:=LP k5 p1 hB
     show(w.setRow B _).heap[R']? =_
     rw[f3 R' this,←hM];exact p5)
 exact⟨_,_,hr,rfl,rfl,rfl,rfl,rfl,this.1,this.2⟩
theorem GZ h {n}:∀{u},(u.any fun p=>Nat.beq p.1 n)=false→qA h u n=h n
 |[],_=>rfl
 |(id,o)::u,hu=>by
  simp only[List.any_cons,Bool.or_eq_false_iff] at hu
  have:n≠id:=fun e=>by simp_all
  show qA (qW h id o) u n=h n
  rw[GZ (qW h id o) hu.2,yE _ _ this]
theorem yZr {P M w}(ok:Ok M)(hM:M.H=w.heap){t a v r u ra rv}(ha:zN M a ra)(hv:zN M v rv)
  (h:qX (wy P M.h t a v) r u):r=.undef∧iX P (Instr.storeAt t ra rv) M w u:=by
 unfold wy at h
 split at h
 ·exact h.elim
 ·rename_i vs cB
  have cw:=GV cB hv
  cases hb:(Nat.beq vs.length (P.cellsOf t)&&Nat.blt 0 vs.length) with
  |false=>rw[hb] at h;exact h.elim
  |true=>
   rw[hb] at h
   simp only[Bool.and_eq_true] at hb
   have hn:=Nat.eq_of_beq_eq_true hb.1
   have h0:=LL hb.2
   split at h
   ·split at h
    ·rename_i cells ab
     split at h
     ·rename_i bn hp
      obtain⟨_,rfl,rfl⟩:=dN h
      obtain⟨C,B,hC,hB,rfl⟩:=ha
      have:=yQ0 (P:=P) ok hM (t:=t) ab hC hB cw hn h0 hp
      simpa[Instr.storeAt,iX,ga] using this
     ·exact h.elim
    ·exact h.elim
   ·rename_i id i off
    split at h
    ·rename_i ty xs LW u' ab xv
     split at h
     ·rename_i x hp
      cases hu:(u'.any fun p=>Nat.beq p.1 id) with
      |true=>rw[hu] at h;exact h.elim
      |false=>
      rw[hu] at h
      obtain⟨_,rfl,rfl⟩:=dN h
      refine⟨rfl,?_⟩
      obtain⟨M1,a1,a2,a3,a4,a5,a6,a7⟩:=LK ok (wI.refl _) cw xv
      obtain⟨C,B,hC,hB,hi,hra⟩:=zQ.ext (c:=.eptr id i off) a4.ext ha
      have lP:M1.h id=some (.arr true ty xs):=by rw[a2,GZ M.h hu];exact ab
      have xw:=a5.length
      have mQ:=cw.length
      obtain⟨w',M',b1,b2,b3,b4,b5,b6,b7,b8⟩:=vAy (P:=P) a3 (a1.trans hM) (t:=t) lP hC hB hi a5 (by omega) (by omega) hp
      subst hra
      exact⟨w',M',by simpa[Instr.storeAt,ga] using b1,b2,b3,b4,b5,by rw[b6,a2,gK],b7,a4.trans b8⟩
     ·exact h.elim
    ·exact h.elim
   ·split at h
    ·rename_i ver xs jd ab
     split at h
     ·rename_i ys cj
      obtain⟨_,rfl,rfl⟩:=dN h
      obtain⟨C,B,hC,hB,hi,rfl⟩:=ha
      have:=yL4 (P:=P) ok hM (t:=t) ab hC hB hi cj hv (by cases cB;exact hn)
      simpa[Instr.storeAt,iX,ga] using this
     ·exact h.elim
    ·rename_i ver xs n jd ab
     split at h
     ·rename_i ys cj
      obtain⟨CA,rfl,rfl⟩:=dN h
      obtain⟨C,B,hC,hB,hi,rfl⟩:=ha
      have CA:=Nat.eq_of_beq_eq_true CA
      subst CA
      have:=vC4 (P:=P) ok hM (t:=t) ab hC hB hi cj hv (by cases cB;exact hn)
      simpa[Instr.storeAt,iX,ga] using this
     ·exact h.elim
    ·exact h.elim
   ·rename_i id i j ver
    split at h
    ·rename_i v' xs n ab
     cases gf:Nat.beq v' ver with
     |false=>rw[gf] at h;exact h.elim
     |true=>
     rw[gf] at h
     have e:=Nat.eq_of_beq_eq_true gf
     subst e
     obtain⟨_,rfl,rfl⟩:=dN h
     obtain⟨C,hC,h1,hle,hm⟩:=ha
     obtain⟨C',au,hO⟩:=ok.obj _ _ ab
     rw[hC] at au;cases au
     obtain⟨R,rl,k1,k2,rfl⟩:=hm hO.1
     have lQ:rv=.int .i64 n:=hv
     subst lQ
     have:=yMf (P:=P) ok hM (t:=t) (n:=n) ab hC k1 k2 (by cases cB;exact hn)
     simpa[Instr.storeAt,iX,ga] using this
    ·exact h.elim
   ·exact h.elim
theorem dz {c s v u}(h:qX (bif c then s else .stuck) v u):c=true∧qX s v u:=by
 cases c with
 |true=>simp_all
 |false=>exact h.elim
theorem G0 {c s v u}(h:qX (bif c then .stuck else s) v u):c=false∧qX s v u:=by
 cases c with
 |false=>simp_all
 |true=>exact h.elim
theorem G1 {a b:Nat}(h:Nat.beq a b=false):a≠b:=fun e=>by simp_all
theorem xy {i n}(h:zD i n=true):0≤i∧i<n∧i.toNat<n:=by
 simp[zD] at h
 omega
theorem CD {i mk}:∀{n j v u},GO (wv i mk j n) v u→∃k,j≤k∧k<j+n∧i=(k:Int)∧v=.c (mk k)∧u=[]
 |n+1,j,v,u,h=>by
  rcases h with⟨h1,h2,h3⟩|⟨_,h⟩
  ·grind
  ·obtain⟨k,k1,k2,k3⟩:=CD h
   grind
theorem vGk {P M w}(ok:Ok M)(hM:M.H=w.heap){s a v f u ra}(ha:zN M a ra)
  (h:qX (Lf P s a f) v u):qD P (Instr.fieldAt s ra f) M w v u:=by
 unfold Lf at h
 split at h
 ·rename_i fs hs
  split at h
  ·rename_i fd hf
   obtain⟨hz,h⟩:=G0 h
   have hz:=G1 hz
   obtain⟨i,hi⟩:=kM (P:=P) (t:=fd.type) (by omega)
   have hr:∀B o,(Instr.fieldAt s (.pointer (some ⟨B,o,none⟩)) f).run P w=.ok (.pointer (some ⟨B,o+fd.offset,none⟩)) w:=by
    simp[Instr.fieldAt,run_underlying hs,hf,ga,fieldPlace,eY w hi,hz,Addr.add_lit]
   split at h
   ·obtain⟨rfl,rfl⟩:=vQ h
    obtain⟨C,B,hC,hB,rfl⟩:=ha
    exact qD.pure ok hM (hr _ _) ⟨C,B,hC,hB,rfl⟩
   ·obtain⟨rfl,rfl⟩:=vQ h
    obtain⟨C,B,hC,hB,hi,rfl⟩:=ha
    exact qD.pure ok hM (hr _ _) ⟨C,B,hC,hB,hi,by grind⟩
   ·obtain⟨rfl,rfl⟩:=vQ h
    obtain⟨B,o,rfl,hB,hE⟩:=ha
    exact qD.pure ok hM (hr _ _) ⟨B,o,by grind,hB,hE⟩
   ·exact h.elim
  ·exact h.elim
 ·exact h.elim
theorem CE {P w t e A}{n c:Nat}{k}{i:Int}{B o}(hu:P.underlying t=some (.slice e))(h0:0≤i)(h1:i<n)(he:0<P.cellsOf e)
  (hA:A=some ⟨B,o,none⟩):(Instr.indexAt t (.slice A n c) (.int k i)).run P w=.ok (.pointer (some ⟨B,o+i.toNat*P.cellsOf e,none⟩)) w:=by
 obtain⟨x,hx⟩:=kM he
 subst hA
 simp[Instr.indexAt,asIntOf,run_underlying hu,h0,h1,eY w hx,Addr.add_lit]
theorem vBw {P M w}(ok:Ok M)(hM:M.H=w.heap){t x i v u rx ri}(hx:zN M x rx)(hi:zN M i ri)
  (h:qX (wz P M.h t x i) v u):qD P (Instr.indexAt t rx ri) M w v u:=by
 unfold wz at h
 split at h
 ·rename_i e c k n hu
  have kh:ri=.int k n:=hi
  subst kh
  split at h
  ·rename_i sh ty xs
   obtain⟨hz,h⟩:=dz h
   have hz:=Nat.eq_of_beq_eq_true hz
   obtain⟨hb,rfl,rfl⟩:=ke h
   obtain⟨b0,b1,b2⟩:=xy hb
   have oF:zU M.H (bif sh then M.G else M.F) (.sl ty) xs (fun _=>some rx):=hx
   simp only[zU,Option.some.injEq] at oF
   obtain⟨A,m,c,rfl,rfl,hc,oF⟩:=oF
   rcases oF with⟨rfl,_⟩|⟨B,o,rfl,hB,hE⟩
   ·simp at b2
   ·refine qD.pure ok hM (CE hu b0 b1 (by rw[hz];exact ty.size_pos) rfl) ⟨B,o+n.toNat*P.cellsOf e,rfl,hB,?_⟩
    have e1:xs.getD n.toNat ty.dflt=xs[n.toNat]:=by simp[List.getD,b2]
    rw[e1,hz]
    exact hE _ b2
  ·rename_i id r
   split at h
   ·rename_i own ty xs ab
    obtain⟨hz,h⟩:=dz h
    have hz:=Nat.eq_of_beq_eq_true hz
    obtain⟨C,hC,hS⟩:=hx
    obtain⟨C',au,hO⟩:=ok.obj _ _ ab
    rw[hC] at au;cases au
    have hlen:=hO.1
    have cM:=hO.2.1
    have key:∀lo m,lo+m≤C.len→wJ M.H C lo m rx→0≤n→n<(m:Int)→∃B,C.blk=some B∧(Instr.indexAt t rx (.int k n)).run P w=.ok (.pointer (some ⟨B,(lo+n.toNat)*C.sz+0,none⟩)) w:=by
     intro lo m hm oG n0 n1
     clear hS
     obtain⟨A,c,rfl,hS⟩:=oG
     cases hB:C.blk with
     |none=>rw[hB] at hS;obtain⟨_,rfl,_⟩:=hS;omega
     |some B=>
      rw[hB] at hS
      obtain⟨hc,a,hA,ha,_⟩:=hS
      refine⟨B,rfl,?_⟩
      rw[CE hu n0 n1 (by rw[hz];exact ty.size_pos) hA]
      have:a=lo*C.sz:=by rcases ha with ha|ha<;>omega
      rw[this,hz,cM,Nat.add_mul];rfl
    split at h
    ·obtain⟨hb,rfl,rfl⟩:=ke h
     obtain⟨b0,b1,b2⟩:=xy hb
     obtain⟨B,hB,hr⟩:=key 0 C.len (by omega) hS b0 (by omega)
     rw[Nat.zero_add] at hr
     exact qD.pure ok hM hr ⟨C,B,hC,hB,by omega,rfl⟩
    ·obtain⟨hb,rfl,rfl⟩:=ke h
     obtain⟨b0,b1,b2⟩:=xy hb
     obtain⟨B,hB,hr⟩:=key _ _ hS.1 hS.2.1 b0 b1
     exact qD.pure ok hM hr ⟨C,B,hC,hB,by have:=hS.1;omega,rfl⟩
   ·rename_i ver xs ab
    obtain⟨hz,h⟩:=dz h
    have hz:=Nat.eq_of_beq_eq_true hz
    split at h
    ·obtain⟨hb,rfl,rfl⟩:=ke h
     obtain⟨b0,b1,b2⟩:=xy hb
     obtain⟨C,hC,hS⟩:=hx
     obtain⟨C',au,hO⟩:=ok.obj _ _ ab
     rw[hC] at au;cases au
     have hlen:=hO.2.1
     obtain⟨A,c,rfl,hS⟩:=hS
     cases hB:C.blk with
     |none=>rw[hB] at hS;obtain⟨_,h0,_⟩:=hS;omega
     |some B=>
      rw[hB] at hS
      obtain⟨hc,a,hA,ha,_⟩:=hS
      have:a=0:=by rcases ha with ha|ha<;>omega
      have hr:=CE (P:=P) (w:=w) (c:=c) (k:=k) hu b0 (show n<(C.len:Int) by omega) (by omega) hA
      rw[this,hz,Nat.zero_add,Nat.mul_one] at hr
      exact qD.pure ok hM hr ⟨C,B,hC,hB,by omega,rfl⟩
    ·exact h.elim
   ·rename_i ver xs m ab
    obtain⟨hz,h⟩:=dz h
    have hz:=Nat.eq_of_beq_eq_true hz
    split at h
    ·obtain⟨hb,rfl,rfl⟩:=ke h
     obtain⟨b0,b1,b2⟩:=xy hb
     obtain⟨C,hC,hS⟩:=hx
     obtain⟨C',au,hO⟩:=ok.obj _ _ ab
     rw[hC] at au;cases au
     have hlen:=hO.2.1
     obtain⟨A,c,rfl,hS⟩:=hS
     cases hB:C.blk with
     |none=>rw[hB] at hS;obtain⟨_,h0,_⟩:=hS;omega
     |some B=>
      rw[hB] at hS
      obtain⟨hc,a,hA,ha,_⟩:=hS
      have:a=0:=by rcases ha with ha|ha<;>omega
      have hr:=CE (P:=P) (w:=w) (c:=c) (k:=k) hu b0 (show n<(C.len:Int) by omega) (by omega) hA
      rw[this,hz,Nat.zero_add,Nat.mul_one] at hr
      exact qD.pure ok hM hr ⟨C,B,hC,hB,by omega,rfl⟩
    ·exact h.elim
   ·exact h.elim
  ·rename_i id j ver
   obtain⟨hz,h⟩:=dz h
   have hz:=Nat.eq_of_beq_eq_true hz
   split at h
   ·rename_i v' xs ab
    obtain⟨hv,h⟩:=dz h
    have hv:=Nat.eq_of_beq_eq_true hv
    subst hv
    obtain⟨hb,rfl,rfl⟩:=ke h
    obtain⟨b0,b1,b2⟩:=xy hb
    obtain⟨C,hC,h1,hle,hm⟩:=hx
    obtain⟨C',au,hO⟩:=ok.obj _ _ ab
    rw[hC] at au;cases au
    obtain⟨rb,rl,k1,k2⟩:=hm hO.1
    have hj:j<xs.length:=by
     rw[←hO.2.2.2.1]
     rcases Nat.lt_or_ge j C.rows.length with h|h
     ·exact h
     ·rw[List.getElem?_eq_none h] at k1;cases k1
    obtain⟨B,lO,x',q0,qv,q1,q2,q3,q4⟩:=xo hO hj
    rw[k1] at q1
    cases q1
    have e1:xs.getD j []=xs[j]:=by simp[List.getD,hj]
    rw[e1] at b1 b2
    cases rb with
    |none=>obtain⟨_,h0⟩:=k2;omega
    |some R=>
     obtain⟨a,c,rfl,hc,ha,_⟩:=k2
     have:a=0:=by rcases ha with ha|ha<;>omega
     subst this
     have hr:=CE (P:=P) (w:=w) (c:=c) (k:=k) (A:=some ⟨R,0,none⟩) hu b0 b1 (by omega) rfl
     rw[hz,Nat.zero_add,Nat.mul_one] at hr
     exact qD.pure ok hM hr ⟨C,hC,rfl,hle,by grind⟩
   ·exact h.elim
  ·exact h.elim
 ·rename_i m e id off k n hu
  have kh:ri=.int k n:=hi
  subst kh
  obtain⟨hz,h⟩:=G0 h
  have hz:=G1 hz
  obtain⟨j,j1,j2,rfl,rfl,rfl⟩:=CD h
  obtain⟨C,B,hC,hB,rfl⟩:=hx
  obtain⟨y,hy⟩:=kM (P:=P) (t:=e) (by omega)
  refine qD.pure ok hM (rv:=.pointer (some ⟨B,off+j*P.cellsOf e,none⟩)) ?_ ⟨C,B,hC,hB,rfl⟩
  have:(j:Int)<m:=by omega
  have h':¬m≤j:=by omega
  simp[Instr.indexAt,asIntOf,run_underlying hu,ga,this,h',eY w hy,Addr.add_lit]
 ·rename_i m e id q off k n hu
  have kh:ri=.int k n:=hi
  subst kh
  obtain⟨hz,h⟩:=G0 h
  have hz:=G1 hz
  obtain⟨j,j1,j2,rfl,rfl,rfl⟩:=CD h
  obtain⟨C,B,hC,hB,hq,rfl⟩:=hx
  obtain⟨y,hy⟩:=kM (P:=P) (t:=e) (by omega)
  refine qD.pure ok hM (rv:=.pointer (some ⟨B,_+j*P.cellsOf e,none⟩)) ?_ ⟨C,B,hC,hB,hq,by rw[Nat.add_assoc]⟩
  have:(j:Int)<m:=by omega
  have h':¬m≤j:=by omega
  simp[Instr.indexAt,asIntOf,run_underlying hu,ga,this,h',eY w hy,Addr.add_lit]
 ·rename_i m e sh t x off k n hu
  have kh:ri=.int k n:=hi
  subst kh
  obtain⟨hz,h⟩:=G0 h
  have hz:=G1 hz
  obtain⟨j,j1,j2,rfl,rfl,rfl⟩:=CD h
  obtain⟨B,o,rfl,hB,hE⟩:=hx
  obtain⟨y,hy⟩:=kM (P:=P) (t:=e) (by omega)
  refine qD.pure ok hM (rv:=.pointer (some ⟨B,_+j*P.cellsOf e,none⟩)) ?_ ⟨B,o,by rw[Nat.add_assoc],hB,hE⟩
  have:(j:Int)<m:=by omega
  have h':¬m≤j:=by omega
  simp[Instr.indexAt,asIntOf,run_underlying hu,ga,this,h',eY w hy,Addr.add_lit]
 ·exact h.elim
theorem We {M cs}{us:Array Value}{off n vs}(h:zI (zQ M) cs us.toList)(hc:iQ cs off n=some vs):zI (zQ M) vs (us.extract off (off+n)).toList:=by
 obtain⟨h1,rfl,h2⟩:=Cy hc
 have:=(h.drop off).take n
 simp_all
theorem Wg {P M w t cs us off vs v}(h:zI (zQ M) cs us.toList)
  (hc:iQ cs off (P.cellsOf t)=some vs) (hp:mJ (jD P t) vs=some v):∃rv,(part t us off).run P w=.ok rv w∧zN M v rv:=by
 have aU:=We h hc
 obtain⟨h1,h2,h3⟩:=Cy hc
 have hl:=h.length
 rcases LC hp with⟨cO,rfl⟩|⟨cO,c,rfl,rfl⟩
 ·obtain⟨⟨d,hd⟩,hr⟩:=oB (P:=P) w cO
  obtain⟨i,hi⟩:=GP hd
  exact⟨.agg (us.extract off (off+P.cellsOf t)),by simp[part,hr,eY w hi],_,rfl,aU⟩
 ·obtain⟨⟨d,hd⟩,hr⟩:=oB (P:=P) w cO
  simp  at h3
  have aT:off<us.size:=by grind
  have LX:off<cs.length:=by omega
  refine⟨us[off],by simp[part,hr,aT],?_⟩
  have e:cs[off]=c:=by
   have:=congrArg (·[0]?) h2
   grind
  have:=h.get off LX (by omega)
  show zQ M c us[off]
  simp_all
theorem yUu {P M w}(ok:Ok M)(hM:M.H=w.heap){s x v f u rx}(hx:zN M x rx)
  (h:qX (Lh P s x f) v u):qD P (Instr.field s rx f) M w v u:=by
 unfold Lh at h
 split at h
 ·rename_i fs cs hs
  split at h
  ·rename_i fd hf
   split at h
   ·rename_i vs hc
    obtain⟨h',rfl⟩:=Ly h
    obtain⟨us,rfl,kO⟩:=hx
    obtain⟨rv,hr,hv⟩:=Wg (P:=P) (w:=w) kO hc h'
    exact qD.pure ok hM (by simp[Instr.field,run_underlying hs,hf,asAgg,hr]) hv
   ·exact h.elim
  ·exact h.elim
 ·exact h.elim
theorem vB4 {P M w}(ok:Ok M)(hM:M.H=w.heap){t x i v u rx ri}(hx:zN M x rx)(hi:zN M i ri)
  (h:qX (Lg P t x i) v u):qD P (Instr.index t rx ri) M w v u:=by
 unfold Lg at h
 split at h
 ·rename_i m e cs k n hu
  have kh:ri=.int k n:=hi
  subst kh
  obtain⟨hc,h⟩:=dz h
  simp only[Bool.and_eq_true] at hc
  obtain⟨⟨c1,c2⟩,c3⟩:=hc
  have c1:=Nat.eq_of_beq_eq_true c1
  have c3:=Nat.eq_of_beq_eq_true c3
  obtain⟨j,j1,j2,rfl,rfl,rfl⟩:=CD h
  obtain⟨us,rfl,kO⟩:=hx
  have cO:jD P e=some false:=by
   grind
  have hj:j<cs.length:=by omega
  have cZ:iQ cs j (P.cellsOf e)=some [cs[j]]:=by
   unfold iQ
   have:Nat.ble (j+P.cellsOf e) cs.length=true:=Nat.ble_eq_true_of_le (by omega)
   rw[this,c1]
   simp[List.take_one]
  obtain⟨rv,hr,hv⟩:=Wg (P:=P) (w:=w) kO cZ (v:=.c cs[j]) (by rw[cO];rfl)
  obtain⟨y,hy⟩:=kM (P:=P) (t:=e) (by omega)
  have hjm:(j:Int)<m:=by omega
  refine qD.pure ok hM (rv:=rv) ?_ ?_
  ·have h':¬m≤j:=by omega
   simp[Instr.index,asIntOf,run_underlying hu,h',eY w hy,c1,hr]
  simp_all
 ·exact h.elim
theorem LY a b:j5 a b=(a==b):=by cases a<;>cases b<;>rfl
theorem yO7 {P M w}(ok:Ok M)(hM:M.H=w.heap){op k x y xt v u}(hs:op≠.shl∧op≠.shr)
  (h:qX (VH op k x y) v u):qD P (binOp op xt (.int k x) (.int k y)) M w v u:=by
 cases op with
 |shl=>simp_all
 |shr=>simp_all
 |quo=>
  obtain⟨h1,rfl,rfl⟩:=ke h
  simp  at h1
  exact qD.pure ok hM (rv:=.int k (k.wrap (x.tdiv y))) (by simp[binOp,Op.intDiv,h1]) rfl
 |rem=>
  obtain⟨h1,rfl,rfl⟩:=ke h
  simp[Bool.not_eq_true'] at h1
  exact qD.pure ok hM (rv:=.int k (x.tmod y)) (by simp[binOp,Op.intDiv,h1]) rfl
 |neq=>
  obtain⟨rfl,rfl⟩:=vQ h
  exact qD.pure ok hM (rv:=.bool (!decide (x=y))) (by simp[binOp,Op.intCmp,bne,BEq.beq]) rfl
 |eql=>
  obtain⟨rfl,rfl⟩:=vQ h
  exact qD.pure ok hM (rv:=.bool (decide (x=y))) (by simp[binOp,Op.intCmp,BEq.beq]) rfl
 |_=>
  obtain⟨rfl,rfl⟩:=vQ h
  exact qD.pure ok hM (rv:=_) (by simp[binOp];rfl) rfl
theorem Wh {P M w}(ok:Ok M)(hM:M.H=w.heap){op k j x y xt v u}(hs:op=.shl∨op=.shr)
  (h:qX (VI op k x y) v u):qD P (binOp op xt (.int k x) (.int j y)) M w v u:=by
 rcases hs with rfl|rfl
 ·obtain⟨h1,rfl,rfl⟩:=ke h
  simp only[Bool.not_eq_true',decide_eq_false_iff_not] at h1
  exact qD.pure ok hM (rv:=.int k (k.wrap (x*2^(min y.toNat k.bits)))) (by simp only[binOp,Op.shift,h1,if_false];rfl) rfl
 ·obtain⟨h1,rfl,rfl⟩:=ke h
  simp only[Bool.not_eq_true',decide_eq_false_iff_not] at h1
  exact qD.pure ok hM (rv:=.int k (x.fdiv (2^(min y.toNat k.bits)))) (by simp only[binOp,Op.shift,h1];rfl) rfl
def CF (P:Program)(eqT:TypeId→Bool):Prop:=∀t,eqT t=true→∀(M:zG) (xs ys:List zR) (us vs:Array Value) (r:Bool) (w:World),Gr P t xs ys=some r→
 zI (zQ M) xs us.toList→zI (zQ M) ys vs.toList→P.eqGuardType P.depth t=false∧(Op.equal t (.agg us) (.agg vs)).run P w=.ok r w
def tA:zR→zR→Option Bool
 |.int j a,.int k b=>bif dv j k then some (decide (a=b)) else none
 |.bool a,.bool b=>some (j5 a b)
 |_,_=>none
theorem yZf {x y xs ys r}(h:dw (x::xs) (y::ys)=some r):∃b r',tA x y=some b∧dw xs ys=some r'∧r=(b&&r'):=by
 have CG:(match tA x y,dw xs ys with|some b,some r'=>some (b&&r')|_,_=>none)=some r→∃b r',tA x y=some b∧dw xs ys=some r'∧r=(b&&r'):=by
  grind
 apply CG
 rw[←h]
 match x,y with
 |.int j a,.int k b=>
  cases hk:dv j k<;>cases xs<;>cases ys<;>simp only[dw,tA,hk,cond_true]<;>first|grind|rfl
 |.bool a,.bool b=>
  cases xs<;>cases ys<;>simp only[dw,tA]<;>first|grind|rfl
 |.int _ _,.str _|.int _ _,.undef|.int _ _,.bool _|.int _ _,.fsl _ _ _|.int _ _,.nfl _ _ _|.int _ _,.nsl|.int _ _,.osl _ _|.int _ _,.bsl _ _ _|.int _ _,.ptr _ _|.int _ _,.eptr _ _ _|.int _ _,.fptr _ _ _ _|.int _ _,.mrow _ _ _|.int _ _,.mptr _ _|.int _ _,.meptr _ _ _ _|.int _ _,.nilp|.int _ _,.nilf|.int _ _,.nilm|.int _ _,.fn _ _|.int _ _,.map _
 |.bool _,.str _|.bool _,.undef|.bool _,.int _ _|.bool _,.fsl _ _ _|.bool _,.nfl _ _ _|.bool _,.nsl|.bool _,.osl _ _|.bool _,.bsl _ _ _|.bool _,.ptr _ _|.bool _,.eptr _ _ _|.bool _,.fptr _ _ _ _|.bool _,.mrow _ _ _|.bool _,.mptr _ _|.bool _,.meptr _ _ _ _|.bool _,.nilp|.bool _,.nilf|.bool _,.nilm|.bool _,.fn _ _|.bool _,.map _=>cases xs<;>cases ys<;>cases h
def LZ (b:Bool)(us:List Value):Value:=bif b then .agg us.toArray else us.getD 0 (.bool false)
theorem xz {P:Program}:∀{a r xs},dM (a++r) xs=true→dM a (xs.take a.length)=true∧dM r (xs.drop a.length)=true∧(xs.take a.length).length=a.length
 |[],r,xs,h=>⟨rfl,h,rfl⟩
 |k::a,r,xs,h=>by
  match k,xs,h with
  |some k,.int j n::xs,h=>
   have h':(dv j k&&dM (a++r) xs)=true:=h
   rw[Bool.and_eq_true] at h'
   obtain⟨h1,h2,h3⟩:=xz (P:=P) h'.2
   refine⟨?_,h2,by simp[h3]⟩
   show(dv j k&&dM a (xs.take a.length))=true
   simp_all
  |none,.bool b::xs,h=>
   have h':dM (a++r) xs=true:=h
   obtain⟨h1,h2,h3⟩:=xz (P:=P) h'
   exact⟨h1,h2,by simp[h3]⟩
theorem L4:∀{a b c d r},a.length=b.length→dw (a++c) (b++d)=some r→∃r1 r2,dw a b=some r1∧dw c d=some r2∧r=(r1&&r2)
 |[],[],c,d,r,_,h=>⟨true,r,rfl,h,rfl⟩
 |x::a,y::b,c,d,r,hl,h=>by
  obtain⟨e,r',h1,h2,rfl⟩:=yZf h
  obtain⟨r1,r2,h3,h4,rfl⟩:=L4 (by simp_all) h2
  refine⟨e&&r1,r2,?_,h4,by grind⟩
  have mk:∀{x y:zR} {xs ys:List zR} {b r':Bool},tA x y=some b→dw xs ys=some r'→xs.length=ys.length→dw (x::xs) (y::ys)=some (b&&r'):=by
   intro x y xs ys b r' h1 h2 hl
   cases x<;>cases y<;>first|(cases h1;done)|skip
   ·rename_i j m k n
    simp[tA] at h1
    cases hk:dv j k with
    |false=>simp_all
    |true=>
     rw[hk] at h1
     cases h1
     cases xs<;>cases ys
     ·cases h2;simp[dw,hk]
     ·cases hl
     ·cases hl
     ·simp[dw,hk,h2]
   ·cases h1
    cases xs<;>cases ys
    ·cases h2;simp[dw]
    ·cases hl
    ·cases hl
    ·simp[dw,h2]
  grind
def L5 (P:Program)(dd:Nat)(t:TypeId)(ks:List (Option IntKind)):Prop:=∃b,jD P t=some b∧(b=false→ks.length=1)∧∀(M:zG) (w:World) (us vs:List Value) (xs ys:List zR) (r:Bool),
 dM ks xs=true→dM ks ys=true→dw xs ys=some r→zI (zQ M) xs us→zI (zQ M) ys vs→(Op.equalIn dd t (LZ b us) (LZ b vs)).run P w=.ok r w
theorem mR:∀{ks xs},dM ks xs=true→xs.length=ks.length
 |[],[],_=>rfl
 |some k::ks,.int j n::xs,h=>by
  have h':(dv j k&&dM ks xs)=true:=h
  rw[Bool.and_eq_true] at h'
  simp[mR h'.2]
 |none::ks,.bool b::xs,h=>by
  have h':dM ks xs=true:=h
  simp[mR h']
theorem G2 {P t b}(ht:jD P t=some b){us off w}(hn:off+P.cellsOf t≤us.size)(h1:b=false→P.cellsOf t=1)(h0:∃i,P.info? t=some i):
  (part t us off).run P w=.ok (LZ b ((us.toList.drop off).take (P.cellsOf t))) w:=by
 obtain⟨⟨d,hd⟩,hr⟩:=oB (P:=P) w ht
 cases b with
 |true=>
  obtain⟨i,hi⟩:=h0
  simp[part,hr,eY w hi]
  congr 2
  grind
 |false=>
  have h1:=h1 rfl
  have aT:off<us.size:=by omega
  have e:us[off]? =some us[off]:=by simp
  have e2:(us.toList.drop off).take 1=[us[off]]:=by
   rw[List.drop_eq_getElem_cons (by omega)]
   simp
  simp[part,hr,e,h1,e2]
  rfl
theorem Wi {P dd M w us vs rec}:∀fs i ks xs ys r,(∀f∈fs,∀a,rec f.type=some a→L5 P dd f.type a)→
  Gq P rec i fs=some ks→dM ks xs=true→dM ks ys=true→dw xs ys=some r→zI (zQ M) xs (us.toList.drop i)→zI (zQ M) ys (vs.toList.drop i)→(Op.eqFields dd us vs fs).run P w=.ok r w
 |[],i,ks,xs,ys,r,_,hk,hx,hy,he,hu,hv=>by
  cases hk
  cases xs with
  |cons _ _=>cases hx
  |nil=>cases ys with
   |cons _ _=>cases hy
   |nil=>cases he;rfl
 |f::fs,i,ks,xs,ys,r,aU,hk,hx,hy,he,hu,hv=>by
  unfold Gq at hk
  cases hc:(Nat.beq f.offset i&& !(f.name== "_")) with
  |false=>rw[hc] at hk;cases hk
  |true=>
   rw[hc] at hk
   rw[Bool.and_eq_true] at hc
   have ho:f.offset=i:=by simpa using hc.1
   have hn:f.name≠ "_" :=by simpa using hc.2
   dsimp only[cond_true] at hk
   split at hk
   ·rename_i a r0 ha xA
    cases hl:(Nat.beq a.length (P.cellsOf f.type)&&Nat.blt 0 a.length) with
    |false=>rw[hl] at hk;cases hk
    |true=>
     rw[hl] at hk
     cases hk
     rw[Bool.and_eq_true] at hl
     have G3:0<a.length:=by have:=hl.2;simp[Nat.blt] at this;omega
     have hl:=Nat.eq_of_beq_eq_true hl.1
     obtain⟨b,hb,dA,hE⟩:=aU f (List.mem_cons_self ..) a ha
     obtain⟨x1,x2,x3⟩:=xz (P:=P) hx
     obtain⟨y1,y2,y3⟩:=xz (P:=P) hy
     have ex:xs=xs.take a.length++xs.drop a.length:=(List.take_append_drop _ _).symm
     have ey:ys=ys.take a.length++ys.drop a.length:=(List.take_append_drop _ _).symm
     rw[ex,ey] at he
     obtain⟨r1,r2,e1,e2,rfl⟩:=L4 (by rw[x3,y3]) he
     have xB:=hu.length
     have L6:=hv.length
     have mS:=mR hx
     have tB:=mR hy
     rw[List.length_append] at mS tB
     have tC:=hu.take a.length
     have ki:=hv.take a.length
     have tD:=hu.drop a.length
     have lQ:=hv.drop a.length
     rw[List.drop_drop] at tD lQ
     have h0:∃i,P.info? f.type=some i:=by
      obtain⟨⟨d,hd⟩,_⟩:=oB (P:=P) w hb
      exact GP hd
     have step:=hE M w _ _ _ _ r1 x1 y1 e1 tC ki
     rw[hl] at tD lQ
     have ih:=Wi (w:=w) fs (i+P.cellsOf f.type) r0 _ _ r2 (fun g hg=>aU g (List.mem_cons_of_mem _ hg)) xA x2 y2 e2 (by rw[hl];exact tD) (by rw[hl];exact lQ)
     have bu:i+P.cellsOf f.type≤us.size:=by simp at xB;omega
     have bv:i+P.cellsOf f.type≤vs.size:=by simp at L6;omega
     have p1:=G2 (w:=w) hb bu (by grind) h0
     have p2:=G2 (w:=w) hb bv (fun e=>by have:=dA e;omega) h0
     rw[hl] at step
     unfold Op.eqFields
     rw[if_pos hn,ho]
     simp only[Sem.run_bind,p1,p2,Result.andThen_ok,step]
     cases r1 with
     |true=>grind
     |false=>simp
   ·cases hk
theorem Wj {P dd M w us vs e a}(hE:L5 P dd e a)(hl:a.length=P.cellsOf e)(G3:0<a.length):∀c j xs ys r,
  dM (tf c a) xs=true→dM (tf c a) ys=true→dw xs ys=some r→zI (zQ M) xs (us.toList.drop (j*P.cellsOf e))→zI (zQ M) ys (vs.toList.drop (j*P.cellsOf e))→(Op.eqItems dd e (P.cellsOf e) us vs (List.range' j c)).run P w=.ok r w
 |0,j,xs,ys,r,hx,hy,he,hu,hv=>by
  cases xs with
  |cons _ _=>cases hx
  |nil=>cases ys with
   |cons _ _=>cases hy
   |nil=>cases he;rfl
 |c+1,j,xs,ys,r,hx,hy,he,hu,hv=>by
  obtain⟨b,hb,dA,GX⟩:=id hE
  obtain⟨x1,x2,x3⟩:=xz (P:=P) hx
  obtain⟨y1,y2,y3⟩:=xz (P:=P) hy
  have ex:xs=xs.take a.length++xs.drop a.length:=(List.take_append_drop _ _).symm
  have ey:ys=ys.take a.length++ys.drop a.length:=(List.take_append_drop _ _).symm
  rw[ex,ey] at he
  obtain⟨r1,r2,e1,e2,rfl⟩:=L4 (by rw[x3,y3]) he
  have xB:=hu.length
  have L6:=hv.length
  have mS:=mR hx
  have tB:=mR hy
  have xC:(tf (c+1) a).length=a.length+(tf c a).length:=by show(a++tf c a).length=_;rw[List.length_append]
  rw[xC] at mS tB
  have tC:=hu.take a.length
  have ki:=hv.take a.length
  have tD:=hu.drop a.length
  have lQ:=hv.drop a.length
  rw[List.drop_drop] at tD lQ
  have h0:∃i,P.info? e=some i:=by
   obtain⟨⟨d,hd⟩,_⟩:=oB (P:=P) w hb
   exact GP hd
  have step:=GX M w _ _ _ _ r1 x1 y1 e1 tC ki
  have ej:j*P.cellsOf e+a.length=(j+1)*P.cellsOf e:=by rw[Nat.add_mul];omega
  rw[ej] at tD lQ
  have ih:=Wj (w:=w) hE hl G3 c (j+1) _ _ r2 x2 y2 e2 tD lQ
  have bu:j*P.cellsOf e+P.cellsOf e≤us.size:=by simp at xB;omega
  have bv:j*P.cellsOf e+P.cellsOf e≤vs.size:=by simp at L6;omega
  have p1:=G2 (w:=w) hb bu (by grind) h0
  have p2:=G2 (w:=w) hb bv (fun e=>by have:=dA e;omega) h0
  rw[hl] at step
  rw[show List.range' j (c+1)=j::List.range' (j+1) c from rfl]
  simp only[Op.eqItems,Sem.run_bind,p1,p2,Result.andThen_ok,step]
  cases r1 with
  |true=>grind
  |false=>simp
theorem L7 {P} d:∀m t ks,P.keyTypeAt m t=true→wo P m t=some ks→L5 P (d+m) t ks
 |0,_,_,h,_=>by simp[Program.keyTypeAt] at h
 |m+1,t,ks,hk,h=>by
  unfold Program.keyTypeAt at hk
  unfold wo at h
  split at h
  ·rename_i k hu
   cases h
   refine⟨false,by unfold jD;rw[hu],fun _=>rfl,fun M w us vs xs ys r hx hy he mT gf=>?_⟩
   have mS:=mR hx
   have tB:=mR hy
   match xs,ys,us,vs,hx,hy,mT,gf,mS,tB with
   |[.int j a],[.int j' c],[u],[v],hx,hy,⟨tC,_⟩,⟨ki,_⟩,_,_=>
    have e1:u=.int j a:=tC
    have e2:v=.int j' c:=ki
    subst e1;subst e2
    simp only[dw] at he
    cases hk:dv j j' with
    |false=>rw[hk] at he;cases he
    |true=>
     rw[hk] at he
     cases he
     rw[←od hk]
     exact run_equalIn_int (P:=P) w (d+m) t j k a c hu
  ·rename_i hu
   cases h
   refine⟨false,by unfold jD;rw[hu],fun _=>rfl,fun M w us vs xs ys r hx hy he mT gf=>?_⟩
   have mS:=mR hx
   have tB:=mR hy
   match xs,ys,us,vs,hx,hy,mT,gf,mS,tB with
   |[.bool a],[.bool c],[u],[v],hx,hy,⟨tC,_⟩,⟨ki,_⟩,_,_=>
    have e1:u=.bool a:=tC
    have e2:v=.bool c:=ki
    subst e1;subst e2
    cases he
    show(Op.equalIn (d+m+1) t (.bool a) (.bool c)).run P w=_
    rw[run_equalIn_bool' (P:=P) w (d+m) t a c hu,LY]
  ·rename_i fs hu
   simp only[hu,Bool.and_eq_true,Bool.not_eq_true'] at hk
   refine⟨true,by unfold jD;rw[hu],by simp,fun M w us vs xs ys r hx hy he mT gf=>?_⟩
   have hf:P.fieldsOf t=fs:=by unfold Program.fieldsOf;rw[hu]
   have:=run_equalIn_struct (P:=P) w (d+m) t us.toArray vs.toArray (by rw[hf];exact hu) hk.2
   rw[hf] at this
   refine this.trans (Wi (rec:=wo P m) _ 0 ks xs ys r (fun f hf a ha=>?_) h hx hy he (by simpa using mT) (by simpa using gf))
   have Wk:=Array.all_eq_true_iff_forall_mem.1 hk.1.1 f (by grind)
   simp only[Bool.and_eq_true,bne_iff_ne,ne_eq] at Wk
   exact L7 d m f.type a Wk.2 ha
  ·rename_i n e hu
   simp only[hu] at hk
   split at h
   ·rename_i a ha
    cases hl:(Nat.beq a.length (P.cellsOf e)&&Nat.blt 0 a.length) with
    |false=>rw[hl] at h;cases h
    |true=>
     rw[hl] at h
     cases h
     rw[Bool.and_eq_true] at hl
     have G3:0<a.length:=by have:=hl.2;simp[Nat.blt] at this;omega
     have hl:=Nat.eq_of_beq_eq_true hl.1
     refine⟨true,by unfold jD;rw[hu],(by simp),fun M w us vs xs ys r hx hy he mT gf=>?_⟩
     obtain⟨i,hi⟩:=kM (P:=P) (t:=e) (by omega)
     have:=run_equalIn_array (P:=P) w (d+m) us.toArray vs.toArray hu hi
     refine this.trans ?_
     rw[List.range_eq_range']
     exact Wj (L7 d m e a hk ha) hl G3 n 0 xs ys r hx hy he (by simpa using mT) (by simpa using gf)
   ·cases h
  ·cases h
theorem Wl {P eqT}(h:∀t,eqT t=true→(P.keyTypeAt 8 t&& !P.eqGuardType P.depth t)=true):CF P eqT:=by
 intro t ht M xs ys us vs r w he hu hv
 have h:=h t ht
 simp  at h
 refine⟨h.2,?_⟩
 unfold Gr at he
 split at he
 ·rename_i ks hk
  unfold VJ at hk
  split at hk
  ·cases hc:(dM ks xs&&dM ks ys) with
   |false=>simp_all
   |true=>
    rw[hc] at he
    rw[Bool.and_eq_true] at hc
    obtain⟨b,hb,_,hE⟩:=L7 (P:=P) 9992 8 t ks h.1 hk
    have:b=true:=by
     unfold jD at hb
     simp_all
    subst this
    exact hE M w us.toList vs.toList xs ys r hc.1 hc.2 he hu hv
  ·cases hk
 ·cases he
theorem Wm {P t}(h:Gs P t=true):P.underlying t=some .bool:=by
 unfold Gs at h
 grind
theorem vH6 {P eqT}(heq:CF P eqT){M w}(ok:Ok M)(hM:M.H=w.heap){op xt ox oy x y v u rx ry}
  (hx:zN M x rx) (hy:zN M y ry) (h:qX (Ld P eqT op xt ox oy x y) v u):qD P (do eqGuard op xt ox oy rx ry;binOp op xt rx ry) M w v u:=by
 have quiet:∀{k j:IntKind} {a b:Int},(eqGuard op xt ox oy (.int k a) (.int j b)).run P w=.ok () w:=by
  unfold eqGuard
  simp
 have step:∀{a b:Value},(eqGuard op xt ox oy a b).run P w=.ok () w→qD P (binOp op xt a b) M w v u→qD P (do eqGuard op xt ox oy a b;binOp op xt a b) M w v u:=by
  rintro a b hg ⟨rv,w',M',h1,h2⟩
  exact⟨rv,w',M',by simp_all,h2⟩
 unfold Ld at h
 split at h
 ·have e1:rx=_:=hx
  have e2:ry=_:=hy
  subst e1;subst e2
  exact step quiet (Wh ok hM (.inl rfl) h)
 ·have e1:rx=_:=hx
  have e2:ry=_:=hy
  subst e1;subst e2
  exact step quiet (Wh ok hM (.inr rfl) h)
 ·obtain⟨hk,h2⟩:=dz h
  have hk:=od hk
  subst hk
  have e1:rx=_:=hx
  have e2:ry=_:=hy
  subst e1;subst e2
  exact step quiet (yO7 ok hM (by grind) h2)
 ·rename_i a b
  have e1:rx=_:=hx
  have e2:ry=_:=hy
  subst e1;subst e2
  obtain⟨hb,h2⟩:=dz h
  obtain⟨rfl,rfl⟩:=vQ h2
  have hr:=run_equalIn_bool' (P:=P) w 9999 xt a b (Wm hb)
  refine qD.pure ok hM (rv:=.bool (j5 a b)) ?_ rfl
  have mU:(Op.equal xt (.bool a) (.bool b)).run P w=.ok (a==b) w:=hr
  have hg:(eqGuard .eql xt ox oy (.bool a) (.bool b)).run P w=.ok () w:=by rfl
  simp only[Sem.run_bind,hg,Result.andThen_ok,binOp,mU,Sem.run_pure,LY]
 ·rename_i a b
  have e1:rx=_:=hx
  have e2:ry=_:=hy
  subst e1;subst e2
  obtain⟨hb,h2⟩:=dz h
  obtain⟨rfl,rfl⟩:=vQ h2
  have hr:=run_equalIn_bool' (P:=P) w 9999 xt a b (Wm hb)
  refine qD.pure ok hM (rv:=.bool (!j5 a b)) ?_ rfl
  have mU:(Op.equal xt (.bool a) (.bool b)).run P w=.ok (a==b) w:=hr
  have hg:(eqGuard .neq xt ox oy (.bool a) (.bool b)).run P w=.ok () w:=by rfl
  simp only[Sem.run_bind,hg,Result.andThen_ok,binOp,mU,Sem.run_pure,LY]
 ·rename_i a b
  have e1:rx=_:=hx
  have e2:ry=_:=hy
  subst e1;subst e2
  obtain⟨rfl,rfl⟩:=vQ h
  have hg:(eqGuard .eql xt ox oy (.string ⟨(kJ a).toArray⟩) (.string ⟨(kJ b).toArray⟩)).run P w=.ok () w:=by rfl
  refine qD.pure ok hM (rv:=.bool (tg a b)) ?_ rfl
  simp only[hg,binOp_string_eql,ByteArray.toList_eq]
  rfl
 ·rename_i a b
  have e1:rx=_:=hx
  have e2:ry=_:=hy
  subst e1;subst e2
  obtain⟨rfl,rfl⟩:=vQ h
  have hg:(eqGuard .neq xt ox oy (.string ⟨(kJ a).toArray⟩) (.string ⟨(kJ b).toArray⟩)).run P w=.ok () w:=by rfl
  refine qD.pure ok hM (rv:=.bool (!tg a b)) ?_ rfl
  simp only[hg,Result.andThen_ok,binOp_string_neq,ByteArray.toList_eq,Sem.run_pure]
  rfl
 ·obtain⟨ht,h⟩:=dz h
  split at h
  ·rename_i r hr
   obtain⟨rfl,rfl⟩:=vQ h
   obtain⟨us,rfl,kO⟩:=hx
   obtain⟨vs,rfl,cB⟩:=hy
   obtain⟨g1,g2⟩:=heq xt ht M _ _ us vs r w hr kO cB
   exact step (run_eqGuard_agg w _ xt ox oy us vs g1) (qD.pure ok hM (rv:=.bool r) (by simp only[binOp,Sem.run_bind,g2,Result.andThen_ok];rfl) rfl)
  ·exact h.elim
 ·obtain⟨ht,h⟩:=dz h
  split at h
  ·rename_i r hr
   obtain⟨rfl,rfl⟩:=vQ h
   obtain⟨us,rfl,kO⟩:=hx
   obtain⟨vs,rfl,cB⟩:=hy
   obtain⟨g1,g2⟩:=heq xt ht M _ _ us vs r w hr kO cB
   exact step (run_eqGuard_agg w _ xt ox oy us vs g1) (qD.pure ok hM (rv:=.bool (!r)) (by simp only[binOp,Sem.run_bind,g2];rfl) rfl)
  ·exact h.elim
 ·exact h.elim
theorem yNv {P M w}(ok:Ok M)(hM:M.H=w.heap){op x v u rx}(hx:zN M x rx)(h:qX (Le op x) v u):
  qD P (Op.unary op rx) M w v u:=by
 unfold Le at h
 split at h
 ·obtain⟨rfl,rfl⟩:=vQ h
  have e1:rx=_:=hx
  subst e1
  exact qD.pure ok hM rfl rfl
 ·obtain⟨rfl,rfl⟩:=vQ h
  have e1:rx=_:=hx
  subst e1
  exact qD.pure ok hM rfl rfl
 ·exact h.elim
theorem tE {P w k}{i:Int}{y:Nat}{c}(h0:0≤i)(h1:i≤y):(Instr.sliceBound (.int k i) y c).run P w=.ok i.toNat w:=by
 simp[Instr.sliceBound,asIntOf,h0,h1]
def xD (M:zG):Option zO→Option Value→Prop
 |none,none=>True
 |some a,some v=>zN M a v
 |_,_=>False
theorem CH {P M w b len cap l u lo hi gg fD}(ic:xD M lo gg)(gM:xD M hi fD)(hc:len≤cap)
  (h:qe len lo hi=some (true,l,u)):(Instr.sliceBounds b len cap gg fD none).run P w=.ok (l,u,cap) w∧l≤u∧u≤len∧(lo=none→l=0)∧(hi=none→u=len):=by
 unfold qe at h
 split at h
 ·cases h
  cases gg with
  |some _=>exact ic.elim
  |none=>cases fD with
   |some _=>exact gM.elim
   |none=>exact⟨by rfl,by simp,by simp,by simp,by simp⟩
 ·rename_i k i
  simp  at h
  obtain⟨⟨h0,h1⟩,rfl,rfl⟩:=h
  cases fD with
  |some _=>exact gM.elim
  |none=>cases gg with
   |none=>exact ic.elim
   |some v=>
    have e:v=.int k i:=ic
    subst e
    refine⟨?_,by omega,by simp,by simp,by simp⟩
    simp[Instr.sliceBounds]
    rw[tE h0 h1]
    rfl
 ·rename_i k i
  simp  at h
  obtain⟨⟨h0,h1⟩,rfl,rfl⟩:=h
  cases gg with
  |some _=>exact ic.elim
  |none=>cases fD with
   |none=>exact gM.elim
   |some v=>
    have e:v=.int k i:=gM
    subst e
    refine⟨?_,by simp,by omega,by simp,by simp⟩
    simp only[Instr.sliceBounds,Sem.run_bind,Sem.run_pure,Result.andThen_ok]
    rw[tE h0 (by omega)]
    rfl
 ·rename_i k i k' i'
  simp  at h
  obtain⟨⟨⟨h0,h1⟩,h2⟩,rfl,rfl⟩:=h
  cases gg with
  |none=>exact ic.elim
  |some v=>cases fD with
   |none=>exact gM.elim
   |some v'=>
    have e:v=.int k i:=ic
    have e':v'=.int k' i':=gM
    subst e;subst e'
    refine⟨?_,by omega,by omega,by simp,by simp⟩
    simp[Instr.sliceBounds]
    rw[tE (by omega) (by omega)]
    simp
    rw[tE h0 (by omega)]
    rfl
 ·cases h
def kQ (A:Option Addr)(l c size:Nat):Option Addr:=if c=l then A else A.map (·.add (l*size))
theorem wJ.cut {H C lo n l u A c}(h:wJ H C lo n (.slice A n c))(h1:l≤u)(h2:u≤n):
  wJ H C (lo+l) (u-l) (.slice (kQ A l c C.sz) (u-l) (c-l)):=by
 obtain⟨A',c',e,h⟩:=h
 obtain⟨rfl,_,rfl⟩:=e
 refine⟨_,_,rfl,?_⟩
 cases hB:C.blk with
 |none=>
  rw[hB] at h
  obtain⟨rfl,rfl,rfl⟩:=h
  refine⟨?_,by omega,by omega⟩
  unfold kQ;simp
 |some B=>
  rw[hB] at h
  obtain⟨hc,a,rfl,ha,hs⟩:=h
  refine⟨by omega,?_⟩
  unfold kQ
  by_cases e:c=l
  ·simp_all
  ·rw[if_neg e]
   refine⟨a+l*C.sz,by simp[Addr.add_lit],.inr ?_,by grind⟩
   grind
theorem wJ.cut' {H C lo n l u A c}(h:wJ H C lo n (.slice A n c))(h1:l≤u)(h2:u≤c):
  wJ H C (lo+l) (u-l) (.slice (kQ A l c C.sz) (u-l) (c-l)):=by
 obtain⟨A',c',e,h⟩:=h
 obtain⟨rfl,_,rfl⟩:=e
 refine⟨_,_,rfl,?_⟩
 cases hB:C.blk with
 |none=>
  rw[hB] at h
  obtain⟨rfl,rfl,rfl⟩:=h
  refine⟨?_,by omega,by omega⟩
  unfold kQ;simp
 |some B=>
  rw[hB] at h
  obtain⟨hc,a,rfl,ha,hs⟩:=h
  refine⟨by omega,?_⟩
  unfold kQ
  by_cases e:c=l
  ·simp_all
  ·rw[if_neg e]
   refine⟨a+l*C.sz,by simp[Addr.add_lit],.inr ?_,by grind⟩
   grind
theorem vCv {H F t}{xs:List t.den}{A n c l u}(h:zU H F (.sl t) xs (fun _=>some (.slice A n c)))(h1:l≤u)(h2:u≤n):
  zU H F (.sl t) (qQ xs l (u-l)) (fun _=>some (.slice (kQ A l c t.size) (u-l) (c-l))):=by
 simp[zU] at h⊢
 obtain⟨A',n',c',⟨rfl,rfl,rfl⟩,hn,hc,h⟩:=h
 have hl:=xq (xs:=xs) (lo:=l) (n:=u-l) (by omega)
 refine⟨_,_,_,⟨rfl,rfl,rfl⟩,hl.symm,by omega,?_⟩
 by_cases e0:u-l=0
 ·refine .inl ⟨by grind,fun hA=>?_⟩
  rcases h with⟨rfl,h0⟩|⟨B,o,rfl,_⟩
  ·cases A with
   |none=>simp_all
   |some a=>
    unfold kQ at hA
    grind
  ·unfold kQ at hA
   grind
 ·rcases h with⟨rfl,_⟩|⟨B,o,rfl,hB,hE⟩
  ·simp_all
  ·refine .inr ⟨B,o+l*t.size,?_,hB,fun i hi=>?_⟩
   ·unfold kQ
    rw[if_neg (by omega)]
    simp[Addr.add_lit]
   ·obtain⟨bj,e1⟩:=GW hi
    grind
theorem Wn {P w t e A n c l u gg fD}(hu:P.underlying t=some (.slice e))(he:0<P.cellsOf e)
  (hb:(Instr.sliceBounds true n c gg fD none).run P w=.ok (l,u,c) w):
  (Instr.sliceAt t (.slice A n c) gg fD none).run P w=.ok (.slice (kQ A l c (P.cellsOf e)) (u-l) (c-l)) w:=by
 obtain⟨y,hy⟩:=kM he
 simp[Instr.sliceAt,run_underlying hu,Instr.slice,hb,eY w hy,kQ]
theorem Wo {M}:∀{vs us ns},tm vs=some ns→zI (zQ M) vs us→us=ns.map (.int .i64 ·)∧vs=ns.map (.int .i64 ·)
 |[],[],ns,h,_=>by cases h;simp
 |v::vs,u::us,ns,h,hh=>by
  unfold tm at h
  split at h
  ·simp_all
  ·rename_i n l heq
   cases heq
   split at h
   ·rename_i r hr
    cases h
    obtain⟨e1,e2⟩:=Wo hr hh.2
    have:u=.int .i64 n:=hh.1
    simp_all
   ·cases h
  ·cases h
theorem Wp {M}(ok:Ok M){id own cells}(ab:M.h id=some (.box own cells)):
  ∃M',M'.H=M.H∧M'.h=qW M.h id (.box false cells)∧Ok M'∧yL M M'∧M'.h id=some (.box false cells):=by
 cases own with
 |false=>exact⟨M,rfl,(xp ab).symm,ok,yL.refl M,ab⟩
 |true=>
  obtain⟨C,hC,hO⟩:=ok.obj id _ ab
  have oC:yJ (M.freeze id (.box false cells) C) (.box false cells) C:=by
   have x:yB M (M.freeze id (.box false cells) C):=⟨fun _ C h=>⟨C,h,C.le_refl⟩,fun _ h=>.inl h,fun _ h=>.inl h,fun _ _=>rfl,fun _ _=>rfl,fun _ _=>rfl⟩
   obtain⟨B,vals,e,h1,h2,h3,h4,h5⟩:=hO.ext x fun _ _ _=>rfl
   exact⟨B,vals,e,h1,h2,h3,h4,fun _=>.inr (jT h1)⟩
  have:=zG.freeze_ok ok ab rfl hC rfl oC
  exact⟨M.freeze id _ C,rfl,rfl,this.1,this.2,yA _ _ _⟩
theorem vD3 {P}{M}{w}(ok:Ok M)(hM:M.H=w.heap){t}{x v}{lo hi mx u rx gg fD xE}
  (hx:zN M x rx) (ic:xD M lo gg) (gM:xD M hi fD) (CI:xD M mx xE) (h:qX (xc P M.h t x lo hi mx) v u):qD P (Instr.sliceAt t rx gg fD xE) M w v u:=by
 unfold xc at h
 split at h
 ·rename_i e sh ty xs hu
  cases xE with
  |some _=>exact CI.elim
  |none=>
  obtain⟨hz,h⟩:=dz h
  have hz:=Nat.eq_of_beq_eq_true hz
  split at h
  ·rename_i gd l u' hc
   obtain⟨rfl,rfl,rfl⟩:=ke h
   have oF:zU M.H (bif sh then M.G else M.F) (.sl ty) xs (fun _=>some rx):=hx
   have CJ:=oF
   simp only[zU,Option.some.injEq] at CJ
   obtain⟨A,m,c,rfl,rfl,hY,_⟩:=CJ
   obtain⟨b1,b2,b3,b4,b5⟩:=CH (P:=P) (w:=w) (b:=true) ic gM hY hc
   refine qD.pure ok hM (Wn hu (by rw[hz];exact ty.size_pos) b1) ?_
   have key:=vCv oF b2 b3
   rw[←hz] at key
   show zU _ _ _ _ _
   split
   ·rw[b4 rfl,b5 rfl] at key⊢
    simpa[qQ] using key
   ·rw[b5 rfl] at key⊢
    have:qQ xs l (xs.length-l)=xs.drop l:=by simp only[qQ];rw[List.take_of_length_le (by simp)]
    rw[this] at key
    exact key
   ·rw[b4 rfl] at key⊢
    simpa[qQ] using key
   ·exact key
  ·exact h.elim
 ·rename_i e id r hu
  cases xE with
  |some _=>exact CI.elim
  |none=>
  split at h
  ·rename_i own ty xs ab
   obtain⟨hz,h⟩:=dz h
   have hz:=Nat.eq_of_beq_eq_true hz
   split at h
   ·rename_i gd l u' hc
    obtain⟨rfl,rfl,rfl⟩:=ke h
    obtain⟨C,hC,hS⟩:=hx
    obtain⟨C',au,hO⟩:=ok.obj _ _ ab
    rw[hC] at au;cases au
    have hlen:=hO.1
    have cM:=hO.2.1
    have key:∀oH m,oH+m≤C.len→wJ M.H C oH m rx→Lx C oH rx→qe (match hi with|none=>m|some _=>C.len-oH) lo hi=some (true,l,u')→
      qD P (Instr.sliceAt t rx gg fD none) M w (.c (.osl id (some (oH+l,u'-l)))) []:=by
     intro oH m hm oG eZ hY
     have hS0:=oG
     clear hS
     obtain⟨A,c,rfl,_⟩:=hS0
     obtain⟨_,_,_,eZ,CK⟩:=eZ
     cases eZ
     have L8:m≤c:=by
      obtain⟨A',c',e,L9⟩:=oG
      simp only[Value.slice.injEq] at e
      obtain⟨rfl,_,rfl⟩:=e
      cases hB:C.blk with
      |none=>rw[hB] at L9;omega
      |some B=>rw[hB] at L9;exact L9.1
     have hb:∃k,(Instr.sliceBounds true m c gg fD none).run P w=.ok (l,u',c) w∧l≤u'∧u'≤k∧k≤c∧oH+k≤C.len:=by
      cases hi with
      |none=>
       obtain⟨b1,b2,b3,b4,b5⟩:=CH (P:=P) (w:=w) (b:=true) ic gM L8 hY
       exact⟨m,b1,b2,b3,L8,hm⟩
      |some y=>
       have hk:C.len-oH≤c:=by omega
       obtain⟨b1,b2,b3,b4,b5⟩:=CH (P:=P) (w:=w) (b:=true) ic gM hk hY
       refine⟨C.len-oH,?_,b2,b3,hk,by omega⟩
       cases fD with
       |none=>exact gM.elim
       |some ry=>exact b1
     obtain⟨k,b1,b2,b3,b6,b7⟩:=hb
     refine qD.pure ok hM (Wn hu (by rw[hz];exact ty.size_pos) b1) ⟨C,hC,by omega,?_,_,_,_,rfl,by omega⟩
     have:=wJ.cut' oG b2 (by grind)
     rw[hz,←cM]
     exact this
    cases r with
    | none => exact key 0 C.len (by omega) hS (by
      obtain⟨A,c,rfl,h⟩:=hS
      refine⟨A,_,c,rfl,?_⟩
      cases hB:C.blk with
      |none=>rw[hB] at h;omega
      | some B => rw [hB] at h; have := h.1; omega) (by
      unfold Lk at hc
      rw[←hlen] at hc
      cases hi<;>exact hc)
    | some p => exact key p.1 p.2 hS.1 hS.2.1 hS.2.2 (by
      unfold Lk at hc
      rw[←hlen] at hc
      cases hi<;>exact hc)
   ·exact h.elim
  ·exact h.elim
 ·rename_i e km m id hu
  split at h
  ·rename_i own ty xs ab
   obtain⟨hz,h⟩:=dz h
   have hz:=Nat.eq_of_beq_eq_true hz
   split at h
   ·skip
    rename_i a b gd l u' _ hc
    obtain⟨dQ,rfl,rfl⟩:=ke h
    simp only[Bool.and_eq_true,decide_eq_true_eq] at dQ
    obtain⟨⟨dQ,h1⟩,h2⟩:=dQ
    subst dQ
    obtain⟨C,hC,hS⟩:=hx
    obtain⟨C',au,hO⟩:=ok.obj _ _ ab
    rw[hC] at au;cases au
    have hlen:=hO.1
    obtain⟨A,c,rfl,hS⟩:=hS
    have L8:C.len≤c:=by
     cases hB:C.blk with
     |none=>rw[hB] at hS;omega
     |some B=>rw[hB] at hS;exact hS.1
    cases xE with
    |none=>exact CI.elim
    |some rm=>
     have hrm:rm=.int km m:=CI
     subst hrm
     obtain⟨b1,b2,b3,b4,b5⟩:=CH (P:=P) (w:=w) (b:=true) ic gM (Nat.le_refl xs.length) hc
     obtain⟨i,hi⟩:=kM (P:=P) (t:=e) (by rw[hz];exact ty.size_pos)
     cases gg with
     |none=>exact ic.elim
     |some rl=>cases fD with
      |none=>exact gM.elim
      |some rh=>
       have hbb:∃k1 i1 k2 i2,rl=.int k1 i1∧rh=.int k2 i2∧0≤i1∧i1≤i2∧i2≤(xs.length:Int)∧l=i1.toNat∧u'=i2.toNat:=by
        unfold qe at hc
        split at hc
        ·rename_i e1 _;cases e1
        ·rename_i e1;cases e1
        ·rename_i e1 _;cases e1
        ·rename_i k i k' i' e1 e2
         cases e1;cases e2
         simp only[Option.some.injEq,Prod.mk.injEq,Bool.and_eq_true,decide_eq_true_eq] at hc
         obtain⟨⟨⟨q0,q1⟩,q2⟩,rfl,rfl⟩:=hc
         exact⟨k,i,k',i',ic,gM,q0,q1,q2,rfl,rfl⟩
        ·cases hc
       obtain⟨k1,i1,k2,i2,rfl,rfl,q0,q1,q2,rfl,rfl⟩:=hbb
       have hr:∃v,(Instr.sliceAt t (.slice A C.len c) (some (.int k1 i1)) (some (.int k2 i2)) (some (.int km m))).run P w=.ok v w∧v.one1=true:=by
        refine⟨.slice (if m.toNat=i1.toNat then A else A.map (·.add (i1.toNat*P.cellsOf e))) (i2.toNat-i1.toNat) (m.toNat-i1.toNat),?_,rfl⟩
        have e1:=tE (P:=P) (w:=w) (k:=km) (i:=m) (y:=c) (c:=.slice3Acap) (by omega) (by omega)
        have e2:=tE (P:=P) (w:=w) (k:=k2) (i:=i2) (y:=m.toNat) (c:=.slice3B) (by omega) (by omega)
        have e3:=tE (P:=P) (w:=w) (k:=k1) (i:=i1) (y:=i2.toNat) (c:=.slice3C) (by omega) (by omega)
        simp[Instr.sliceAt,run_underlying hu,Instr.slice,Instr.sliceBounds,e1,e2,e3,eY w hi]
       obtain⟨v,hr,hv⟩:=hr
       exact qD.pure ok hM hr hv
   ·exact h.elim
  ·exact h.elim
 ·rename_i n e id off hu
  cases xE with
  |some _=>exact CI.elim
  |none=>
  obtain⟨hz,h⟩:=dz h
  have hz:=Nat.eq_of_beq_eq_true hz
  obtain⟨y,hy⟩:=kM (P:=P) (t:=e) (by omega)
  split at h
  ·rename_i own cells ab
   obtain⟨C,B,hC,hB,rfl⟩:=hx
   split at h
   ·obtain⟨_,h⟩:=dz h
    obtain⟨rfl,rfl⟩:=vQ h
    have Ma:gg=none:=by cases gg with
     |none=>rfl
     |some _=>exact ic.elim
    have Mb:fD=none:=by cases fD with
     |none=>rfl
     |some _=>exact gM.elim
    subst Ma;subst Mb
    refine qD.pure ok hM (rv:=.slice (some ⟨B,off,none⟩) n n) ?_ ⟨C,B,hC,hB,rfl⟩
    simp[Instr.sliceAt,run_underlying hu,ga,Instr.sliceBounds,eY w hy,Addr.add_lit]
   ·split at h
    ·rename_i vs cZ
     split at h
     ·rename_i ns gd l u' Md hc
      obtain⟨rfl,rfl,rfl⟩:=dN h
      obtain⟨b1,b2,b3,b4,b5⟩:=CH (P:=P) (w:=w) (b:=false) ic gM (Nat.le_refl n) hc
      obtain⟨M',a1,a2,a3,a4,a5⟩:=Wp ok ab
      obtain⟨C1,fa,le⟩:=a4.ext.κ id C hC
      obtain⟨C2,Wq,hO⟩:=a3.obj id _ a5
      rw[fa] at Wq;cases Wq
      obtain⟨B',vals,ev,k1,k2,k3,k4,k5⟩:=hO
      rw[le.blk,hB] at k1;cases k1
      obtain⟨q1,q2,q3⟩:=Cy cZ
      have aU:=We k4 cZ
      obtain⟨e1,e2⟩:=Wo Md aU
      have hlen:ns.length=n:=by rw[e2] at q3;simpa[hz] using q3
      refine⟨.slice (some (if n=l then⟨B,off,none⟩ else⟨B,off+l*P.cellsOf e,none⟩)) (u'-l) (n-l),w,M',?_,rfl,rfl,rfl,a1.trans hM,by cases own with
       |true=>exact a2
       |false=>rw[a2];exact xp ab,a3,a4,?_⟩
      ·simp[Instr.sliceAt,run_underlying hu,ga,b1,eY w hy,Addr.add_lit]
      ·show zU M'.H (bif true then M'.G else M'.F) (.sl (.int .i64)) (qQ ns l (u'-l)) (fun _=>some _)
       simp only[zU,Option.some.injEq,Value.slice.injEq]
       have hl:=xq (xs:=ns) (lo:=l) (n:=u'-l) (by omega)
       refine⟨_,_,_,⟨rfl,rfl,rfl⟩,hl.symm,by omega,?_⟩
       by_cases e0:u'-l=0
       ·exact by grind
       ·refine .inr ⟨B,off+l*P.cellsOf e,by rw[if_neg (by omega)],k5 rfl,fun i hi=>?_⟩
        obtain⟨bj,e3⟩:=GW hi
        rw[e3,hz]
        simp only[zU,Ty.size,Nat.mul_one,Nat.add_zero,yD,k3]
        have e4:(vals.extract off (off+n)).toList[l+i]? =(ns.map (Value.int .i64 ·))[l+i]? :=by rw[e1]
        simp only[Array.getElem?_toList,List.getElem?_map,List.getElem?_eq_getElem bj,Option.map_some] at e4
        rw[Array.getElem?_extract] at e4
        split at e4
        ·rw[Nat.add_assoc];exact e4
        ·cases e4
     ·exact h.elim
    ·exact h.elim
  ·exact h.elim
 ·exact h.elim
def zG.move (M:zG)(nm:Nat)(C:zT)(h:Hp)(H:Array Go.Obj):zG:={M with κ:=κset M.κ nm C,h:=h,H:=H}
theorem zG.move_ok {M}(ok:Ok M){nm:Nat}{o':Obj}{C':zT}{h'}{H'}(J:Nat→Prop)(aG:M.h nm=none)
    (hJ:∀j,J j→∃o,M.h j=some o∧o.owned=true∧h' j=some .gone) (c0:h' nm=some o') (bc:∀n,¬J n→n≠nm→h' n=M.h n) (cM:M.H.size≤H'.size)
    (hH:∀b,b<M.H.size→(∀j C,J j→M.κ j=some C→b∉C.fp)→H'[b]? =M.H[b]?) (bX:∀b,b<M.H.size→qN H' b=qN M.H b)
    (mN:∀b∈C'.fp,(M.H.size≤b∧b<H'.size)∨∃j C,J j∧M.κ j=some C∧b∈C.fp)
    (hO:yB M (M.move nm C' h' H')→yJ (M.move nm C' h' H') o' C'):Ok (M.move nm C' h' H')∧yL M (M.move nm C' h' H'):=by
  have Wr:∀j C b,J j→M.κ j=some C→b∈C.fp→qF M b:=fun j C b hj hC hb=>by
    obtain⟨o,h1,h2,_⟩:=hJ j hj
    exact⟨j,o,C,h1,h2,hC,hb⟩
  have qq:∀b,M.F b→∀j C,J j→M.κ j=some C→b∉C.fp:=fun b hF j C hj hC hb=>(ok.own b (Wr j C b hj hC hb)).1 hF
  have x:yB M (M.move nm C' h' H'):=
    { κ:=fun n D h=>by
        have:n≠nm:=fun e=>by rw[e,ok.non nm aG] at h;cases h
        exact⟨D,by simp only[zG.move];rw[κset_ne _ _ this];exact h,D.le_refl⟩
      F:=fun _ h=>h
      G:=fun _ h=>h
      same:=fun b h=>hH b (ok.Flt b h) (qq b h)
      sameG:=fun b h=>hH b (ok.Flt b (ok.GF b h)) (qq b (ok.GF b h))
      bsz:=bX}
  have Me:∀j,J j→j≠nm:=by grind
  have cF:∀n q,n≠nm→h' n=some q→q.owned=true→¬J n∧M.h n=some q:=by
    intro n q e h1 h2
    by_cases hj:J n
    · obtain⟨o,_,_,k⟩:=hJ n hj
      rw[k] at h1
      cases h1
      cases h2
    simp_all
  have oA:∀b,qF (M.move nm C' h' H') b→(M.H.size≤b∧b<H'.size)∨qF M b:=by
    rintro b ⟨n,q,D,h1,h2,h3,h4⟩
    by_cases e:n=nm
    · subst e
      simp only[zG.move,κset_same,Option.some.injEq] at h3
      grind
    · obtain⟨_,fB⟩:=cF n q e h1 h2
      simp only[zG.move] at h3
      rw[κset_ne _ _ e] at h3
      exact .inr ⟨n,q,D,fB,h2,h3,h4⟩
  refine⟨ok.build x (fun n=>n=nm∨J n) (fun n hn=>bc n (by grind) (by grind)) (fun n hn=>κset_ne _ _ fun e=>hn (.inl e)) ?_ ?_ cM ?_ ?_ ?_ ok.GF ?_,x,cM,?_,?_,fun b h _=>.inl h,fun b h _=>.inl h⟩
  · intro n q D hn h1 h2 h3 b hb
    refine hH b (ok.own b ⟨n,q,D,h1,h2,h3,hb⟩).2 fun j C hj hC hc=>?_
    obtain⟨o,k1,k2,_⟩:=hJ j hj
    exact ok.disj n j q o D C b (by grind) h1 k1 h2 k2 h3 hC hb hc
  · intro n q D hn h1 h2 h3 b hb
    exact(ok.own b ⟨n,q,D,h1,h2,h3,hb⟩).1
  · rintro n q (rfl|hj) h1
    · simp only[zG.move] at h1
      rw[c0] at h1;cases h1
      exact⟨C',κset_same _ _ _,hO x⟩
    · obtain⟨o,k1,_,k⟩:=hJ n hj
      simp only[zG.move] at h1
      rw[k] at h1;cases h1
      obtain⟨C,hC,_⟩:=ok.obj n o k1
      exact⟨C,by simp only[zG.move];rw[κset_ne _ _ (Me n hj)];exact hC,trivial⟩
  · rintro n (rfl|hj) h1
    · simp only[zG.move] at h1
      rw[c0] at h1;cases h1
    · obtain⟨o,_,_,k⟩:=hJ n hj
      simp only[zG.move] at h1
      rw[k] at h1;cases h1
  · rintro n q D b (rfl|hj) h1 h2 h3 hb
    · simp only[zG.move,κset_same,Option.some.injEq] at h3
      subst h3
      rcases mN b hb with CL|⟨j,C,hj,hC,bh⟩
      · refine⟨fun k qk Dk hk k1 k2 k3 k4=>?_,fun hF=>?_,CL.2⟩
        · obtain⟨_,xu⟩:=cF k qk hk k1 k2
          simp only[zG.move] at k3
          rw[κset_ne _ _ hk] at k3
          have:=(ok.own b ⟨k,qk,Dk,xu,k2,k3,k4⟩).2
          omega
        · have:=ok.Flt b hF
          omega
      · have ho:=ok.own b (Wr j C b hj hC bh)
        refine⟨fun k qk Dk hk k1 k2 k3 k4=>?_,ho.1,by simp only[zG.move];omega⟩
        obtain⟨hkJ,xu⟩:=cF k qk hk k1 k2
        simp only[zG.move] at k3
        rw[κset_ne _ _ hk] at k3
        obtain⟨o,j1,j2,_⟩:=hJ j hj
        exact ok.disj k j qk o Dk C b (by grind) xu j1 k2 j2 k3 hC k4 bh
    · obtain⟨o,_,_,k⟩:=hJ n hj
      simp only[zG.move] at h1
      grind
  · intro b hb
    have:=ok.Flt b hb
    simp only[zG.move];omega
  · intro b hb hn
    exact hH b hb (by grind)
  grind
theorem Ws {P M w}(ok:Ok M)(hM:M.H=w.heap){nm vs us e s}(aG:M.h nm=none)
  (cB:zI (zQ M) vs us.toList) (hr:s.run P w=.ok (.pointer (some ⟨w.heap.size,0,none⟩)) (w.alloc (.cells us e))):
  qD P s M w (.c (.ptr nm 0)) [(nm,.box true vs)]:=by
 let C:zT:=⟨some M.H.size,0,0,0,[]⟩
 have := zG.new_ok ok aG (.box true vs) C (.cells us e) (by simp [C, zT.fp]) (by
  refine⟨M.H.size,us,e,rfl,rfl,tt,cB.mono fun _ _ h=>h.ext (zG.new_ext ok aG _ _ _),by simp⟩)
 exact⟨_,_,_,hr,rfl,rfl,rfl,by show M.H.push _=w.heap.push _;rw[hM],rfl,this.1,this.2,C,M.H.size,κset_same _ _ _,rfl,by rw[hM]⟩
theorem CM {H F}:∀t rd,(∀j,j<t.size→rd j=(eu t)[j]?)→zU H F t t.dflt rd
 |.int k,rd,h
 |.bool,rd,h=>by simp[zU];rw[h 0 (by simp[Ty.size])];rfl
 |.sl t,rd,h=>by
  simp[Ty.dflt]
  exact⟨none,0,0,by rw[h 0 (by simp[Ty.size])];rfl,rfl,by simp,by simp⟩
 |.pair a b,rd,h=>by
  have hl:∀t:Ty,(eu t).length=t.size:=by
   intro t
   induction t with
   |pair a b xF xG=>simp[eu,Ty.size,xF,xG]
   |_=>rfl
  simp[Ty.size,eu] at h
  refine⟨CM a rd (by grind),CM b _ (by grind)⟩
theorem G4:∀t:Ty,(eu t).length=t.size
 |.int _|.bool|.sl _=>rfl
 |.pair a b=>by simp[eu,Ty.size,G4 a,G4 b]
theorem vDd {a b}(h:Lb a b=true):a=b:=by
 unfold Lb at h
 split at h
 ·simp  at h
  rw[od h.1,h.2]
 all_goals grind
theorem Wt:∀{l m},Cm l m=true→l=m
 |[],[],_=>rfl
 |a::l,b::m,h=>by
  simp[Cm] at h
  rw[vDd h.1,Wt h.2]
theorem mV {P e t}(h:fU P e=some t):∃i z,P.info? e=some i∧i.zero=some z∧i.size=t.size∧z.cells.toList=eu t∧P.cellsOf e=t.size∧P.bytesOf e=i.bytes∧z.cells.size=t.size:=by
 unfold fU at h
 split at h
 ·rename_i t' i h1 h2
  split at h
  ·rename_i z hz
   cases hb:(Nat.beq i.size t'.size&&Cm z.cells.toList (eu t')) with
   |false=>simp_all
   |true=>
    rw[hb] at h
    cases h
    simp only[Bool.and_eq_true] at hb
    have e1:=Nat.eq_of_beq_eq_true hb.1
    have e2:=Wt hb.2
    refine⟨i,z,h2,hz,e1,e2,by rw[LA h2];exact e1,yUb h2,?_⟩
    have:=congrArg List.length e2
    rw[G4] at this
    omega
  ·cases h
 ·cases h
theorem Wu {z:Value}{t}(h:z.cells.toList=eu t)(hs:z.cells.size=t.size){i j} hj:z.cells[(i*t.size+j)%z.cells.size]! =(eu t)[j]'(by rw[G4];exact hj):=by
 have e1:(i*t.size+j)%z.cells.size=j:=by rw[hs,Nat.mul_comm,Nat.mul_add_mod,Nat.mod_eq_of_lt hj]
 grind
theorem Wv {H F}{z:Value}{t}(h:z.cells.toList=eu t)(hs:z.cells.size=t.size){n i}(hi:i<n):
  zU H F t t.dflt (fun j=>(madeCells z.cells (n*t.size))[i*t.size+j]?):=by
 refine CM t _ fun j hj=>?_
 have aL:=Nat.mul_le_mul_right t.size (show i+1≤n by omega)
 rw[List.getElem?_eq_getElem (by grind),←Wu h hs (i:=i) hj]
 simp[madeCells]
 grind
theorem Ww {P M w}(ok:Ok M)(hM:M.H=w.heap){nm t xs us e s c}(aG:M.h nm=none)
  (hc:xs.length≤c) (hs:c*t.size≤us.size) (hx:∀i h,zU M.H M.G t xs[i] (fun j=>us[i*t.size+j]?))
  (hr:s.run P w=.ok (.slice (some ⟨w.heap.size,0,none⟩) xs.length c) (w.alloc (.cells us e))):
  qD P s M w (.c (.osl nm none)) [(nm,.arr true t xs)]:=by
 let C:zT:=⟨some M.H.size,xs.length,t.size,0,[]⟩
 have x:=zG.new_ext ok aG (.arr true t xs) C (.cells us e)
 have hle:=Nat.mul_le_mul_right t.size hc
 have := zG.new_ok ok aG (.arr true t xs) C (.cells us e) (by simp [C, zT.fp]) (by
  refine⟨rfl,rfl,by grind,us,e,tt,by simp,by omega,fun i hi=>?_⟩
  exact yK x.G x.sameG t _ _ _ (by simp) (hx i hi))
 refine⟨_,_,_,hr,rfl,rfl,rfl,by show M.H.push _=w.heap.push _;rw[hM],rfl,this.1,this.2,C,κset_same _ _ _,_,c,rfl,?_⟩
 refine⟨hc,0,by rw[hM],by simp,?_⟩
 simp
 have:qN (M.H.push (.cells us e)) M.H.size=us.size:=by simp[qN]
 show c*t.size≤qN (M.H.push (.cells us e)) M.H.size
 omega
theorem yOb {P M w}(ok:Ok M)(hM:M.H=w.heap){nm t zs}(aG:M.h nm=none)(hz:zeroCells P t=some zs):
  qD P (Instr.alloc t true (.tuple #[])) M w (.c (.ptr nm 0)) [(nm,.box true zs)]:=by
 obtain⟨i,v,h1,h2,h3,h4,rfl⟩:=VX hz
 refine Ws ok hM aG (us:=v.cells) (e:=t) (GQ M h4) ?_
 simp[Instr.alloc,zeroValue,typeInfo,h1,h2,newVar,newRow]
theorem Wx {P M w}(ok:Ok M)(hM:M.H=w.heap){nm t x rx vs}(aG:M.h nm=none)(hx:zN M x rx)(hv:kI x=some vs):
  qD P (Instr.box t rx) M w (.c (.ptr nm 0)) [(nm,.box true vs)]:=by
 refine Ws ok hM aG (us:=rx.cells) (e:=t) (GV hv hx) ?_
 rfl
theorem vIk {P M w}(ok:Ok M)(hM:M.H=w.heap){nm t x rx vs}(aG:M.h nm=none)(hx:zN M x rx)(hv:kI x=some vs) m:
  qD P (Instr.box t rx) M w (.c (.ptr nm 0)) [(nm,.box (!m) vs)]:=by
 cases m with
 |false=>exact Wx ok hM aG hx hv
 |true=>
  obtain⟨rv,w',M',a1,a2,a3,a4,a5,a6,a7,a8,a9⟩:=Wx (P:=P) (t:=t) ok hM aG hx hv
  have ab:M'.h nm=some (.box true vs):=by rw[a6];exact yA _ _ _
  obtain⟨M2,b1,b2,b3,b4,b5⟩:=Wp a7 ab
  refine⟨rv,w',M2,a1,a2,a3,a4,b1.trans a5,?_,b3,a8.trans b4,a9.ext b4.ext⟩
  rw[b2,a6]
  funext n
  show qW (qW M.h nm _) nm _ n=qW M.h nm _ n
  by_cases e:n=nm
  ·subst e;rw[yA,yA];rfl
  ·rw[yE _ _ e,yE _ _ e,yE _ _ e]
theorem Wy {α:Type}{n i:Nat}{a:α} h:(List.replicate n a)[i]=a:=by simp
theorem vBu {P M w}(ok:Ok M)(hM:M.H=w.heap){nm n us e s c}(aG:M.h nm=none)
  (hc:n≤c) (hs:c≤us.size) (hx:∀i,i<n→us[i]? =some (.slice none 0 0))
  (hr:s.run P w=.ok (.slice (some ⟨w.heap.size,0,none⟩) n c) (w.alloc (.cells us e))):
  qD P s M w (.c (.osl nm none)) [(nm,.mat 0 (List.replicate n []))]:=by
 let C:zT:=⟨some M.H.size,n,1,0,List.replicate n (none,0)⟩
 have hfm:(List.replicate n ((none,0):Option Nat×Nat)).filterMap (·.1)=[]:=by
  simp
 have mN:C.fp=[M.H.size]:=by simp[C,zT.fp]
 have := zG.new_ok ok aG (.mat 0 (List.replicate n [])) C (.cells us e) (by simp_all) (by
  refine⟨rfl,by simp[C],rfl,by simp[C],by simp_all,us,e,tt,by grind,fun i hi=>?_⟩
  have eE:i<n:=by simp_all
  refine⟨none,.slice none 0 0,by grind,hx i eE,⟨rfl,by simp⟩,by simp⟩)
 refine⟨_,_,_,hr,rfl,rfl,rfl,by show M.H.push _=w.heap.push _;rw[hM],rfl,this.1,this.2,C,κset_same _ _ _,_,c,rfl,?_⟩
 refine⟨hc,0,by rw[hM],by simp,?_⟩
 simp
 have:qN (M.H.push (.cells us e)) M.H.size=us.size:=by simp[qN]
 show c*1≤qN (M.H.push (.cells us e)) M.H.size
 omega
theorem vC5 {P M w}(ok:Ok M)(hM:M.H=w.heap){mat nm t l c v u rl rc}(hl:zN M l rl)(hc:zN M c rc)
  (h:qX (w7 P mat nm M.h t l c) v u):qD P (Instr.makeSlice t rl rc) M w v u:=by
 unfold w7 at h
 split at h
 ·rename_i e l c hu aG
  have e1:rl=.int .i64 l:=hl
  have e2:rc=.int .i64 c:=hc
  subst e1;subst e2
  cases mat with
  |true=>
   split at h
   ·rename_i cD
    obtain⟨dQ,rfl,rfl⟩:=dN h
    obtain⟨i,z,h1,h2,h3,h4,h5,h6,h7⟩:=mV cD
    simp[Bool.and_eq_true] at dQ
    obtain⟨⟨⟨o1,o2⟩,o3⟩,o4⟩:=dQ
    have hr:=run_make (P:=P) w t e i z hu h1 h2 .i64 .i64 l c o1 o2 (by grind) (by omega)
    have cM:i.size=1:=h3
    rw[cM,Nat.mul_one] at hr
    refine vBu ok hM aG (n:=l.toNat) (c:=c.toNat) (by omega) (by rw[size_madeCells];omega) (fun k hk=>?_) hr
    have G5:z.cells.toList=[.slice none 0 0]:=h4
    have Mh:z.cells.size=1:=h7
    simp only[madeCells]
    have:z.cells.toList[0]'(by simp;omega)=.slice none 0 0:=by grind
    grind
   ·exact h.elim
  |false=>
   simp  at h
   split at h
   ·rename_i ty cD
    obtain⟨dQ,rfl,rfl⟩:=dN h
    obtain⟨i,z,h1,h2,h3,h4,h5,h6,h7⟩:=mV cD
    simp  at dQ
    obtain⟨⟨⟨o1,o2⟩,o3⟩,o4⟩:=dQ
    have hr:=run_make (P:=P) w t e i z hu h1 h2 .i64 .i64 l c o1 o2 (by grind) (by omega)
    refine Ww ok hM aG (c:=c.toNat) (us:=madeCells z.cells (c.toNat*ty.size)) (e:=e) (by grind) (by rw[size_madeCells];omega) (fun k hk=>?_) (by simp_all)
    rw[Wy hk]
    simp  at hk
    exact Wv h4 h7 (by omega)
   ·exact h.elim
 ·exact h.elim
end Go.Ab
