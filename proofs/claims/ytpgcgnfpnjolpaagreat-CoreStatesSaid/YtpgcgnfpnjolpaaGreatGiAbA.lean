/- part 0 -/
import Derived.Calls
import Derived.Orders
import Derived.KernelRfl
import Derived.Laws.Append
import Derived.Laws.AppendOwn
import Derived.Laws.MakeOwn
import Derived.Laws.IdiomCopy
import Derived.Laws.StructEq
import Derived.Laws.CopyRow
import Derived.ChangeKeysEq
set_option linter.unusedVariables false
namespace Go.Ab
inductive Ty where
 |int (k:IntKind)|bool|sl (t:Ty)|pair (a b:Ty)
abbrev Ty.den:Ty→Type
 |.int _=>Int|.bool=>Bool|.sl t=>List t.den|.pair a b=>a.den×b.den
def Ty.size:Ty→Nat
 |.int _=>1|.bool=>1|.sl _=>1|.pair a b=>a.size+b.size
def Ty.flat:Ty→Bool
 |.int _|.bool=>true|.sl _=>false|.pair a b=>a.flat&&b.flat
def Ty.dflt:(t:Ty)→t.den
 |.int _=>(0:Int)|.bool=>false|.sl t=>([]:List t.den)|.pair a b=>(a.dflt,b.dflt)
def jY:IntKind→IntKind→Bool
 |.i8,.i8|.i16,.i16|.i32,.i32|.i64,.i64|.u8,.u8|.u16,.u16|.u32,.u32|.u64,.u64=>true
 |_,_=>false
theorem oV {a b}(h:jY a b=true):a=b:=by cases a<;>cases b<;>first|rfl|cases h
def ny:Ty→Ty→Bool
 |.int j,.int k=>jY j k
 |.bool,.bool=>true
 |.sl a,.sl b=>ny a b
 |.pair a b,.pair c d=>ny a c&&ny b d
 |_,_=>false
theorem D4:∀{a b},ny a b=true→a=b
 |.int j,.int k,h=>congrArg Ty.int (oV h)
 |.bool,.bool,_=>rfl
 |.sl a,.sl b,h=>congrArg Ty.sl (D4 (a:=a) (b:=b) h)
 |.pair a b,.pair c d,h=>by
  simp[ny] at h;rw[D4 h.1,D4 h.2]
def fx (a b:Ty)(xs:List a.den):Option (List b.den):=
 if h:ny a b=true then some (D4 h▸xs) else none
inductive zT where
 |undef
 |int (k:IntKind) (n:Int)
 |bool (b:Bool)
 |fsl (sh:Bool) (t:Ty) (xs:List t.den)
 |nfl (sh:Bool) (t:Ty) (xs:List t.den)
 |nsl
 |osl (id:Nat) (r:Option (Nat×Nat))
 |bsl (id off len:Nat)
 |ptr (id off:Nat)
 |eptr (id i off:Nat)
 |fptr (sh:Bool) (t:Ty) (x:t.den) (off:Nat)
 |mrow (id i ver:Nat)
 |mptr (id i:Nat)
 |meptr (id i j ver:Nat)
 |nilp|nilf|nilm
 |fn (f:Nat) (cap:List Nat)
 |map (id:Nat)
 |str (xs:List Int)
inductive zW where
 |undef
 |skp
 |c (v:zT)
 |agg (vs:List zT)
 |tup (xs:List (Bool×List zT))
inductive Obj where
 |box (own:Bool) (cells:List zT)
 |robox (cells:List zT)
 |arr (own:Bool) (t:Ty) (xs:List t.den)
 |mat (ver:Nat) (xs:List (List Int))
 |pmat (ver:Nat) (xs:List (List Int)) (n:Nat)
 |imap (cL:List (Int×Bool))
 |gone
abbrev Hp:=Nat→Option Obj
abbrev yV:=List (Nat×Obj)
def qW (h:Hp)(id:Nat)(o:Obj):Hp:=fun n=>bif Nat.beq n id then some o else h n
def qF (h:Hp):yV→Hp
 |[]=>h
 |(id,o)::u=>qF (qW h id o) u
structure St where
 t:Nat→zW
 h:Hp
def wM (t:Nat→zW)(d:Nat)(v:zW):Nat→zW:=fun n=>bif Nat.beq n d then v else t n
def gz (t:Nat→zW)(d:Option Nat)(v:zW):Nat→zW:=match d with
 |some d=>wM t d v
 |none=>t
inductive yN where
 |alts (l:List (Bool×zW×yV))
 |call (X:Type) (x:Option X) (f:X→zW×yV)
 |call2 (X Y:Type) (x:Option (X⊕Y)) (f:X→zW×yV) (g:Y→zW×yV)
def yN.stuck:yN:=.alts []
def yN.one (v:zW):yN:=.alts [(true,v,[])]
def yN.when (c:Bool)(v:zW):yN:=.alts [(c,v,[])]
def Na {R:Type}(K:zW→yV→Option R):List (Bool×zW×yV)→Option R
 |[]=>none
 |(c,v,u)::l=>bif c then K v u else Na K l
def yN.elim {R}(s:yN)(K:zW→yV→Option R):Option R:=match s with
 |.alts l=>Na K l
 |.call _ x f=>x.bind fun r=>K (f r).1 (f r).2
 |.call2 _ _ x f g=>x.bind fun r=>match r with
  |.inl a=>K (f a).1 (f a).2
  |.inr b=>K (g b).1 (g b).2
def ue:Value→zT
 |.int k n=>.int k n
 |.bool b=>.bool b
 |.slice none 0 0=>.nsl
 |.pointer none=>.nilp
 |.nilFunc=>.nilf
 |.map none=>.nilm
 |_=>.undef
def uf:Value→Bool
 |.agg _|.tuple _=>false
 |_=>true
def Nb:Value→zW
 |.agg cs=>bif cs.toList.all uf then .agg (cs.toList.map ue) else .undef
 |.tuple _=>.undef
 |v=>.c (ue v)
def St.ev (st:St):Operand→zW
 |.tmp t=>st.t t
 |.const v=>Nb v
 |.global _=>.undef
 |.func f=>.c (.fn f [])
def cellsOf (sh:Bool):(t:Ty)→t.den→List zT
 |.int k,n=>[.int k n]
 |.bool,b=>[.bool b]
 |.sl t,xs=>[.fsl sh t xs]
 |.pair a b,p=>cellsOf sh a p.1++cellsOf sh b p.2
def Nc (k:IntKind):Nat→zT→Option Int
 |0,.int j n=>bif jY j k then some n else none
 |_,_=>none
def Nd:Nat→zT→Option Bool
 |0,.bool b=>some b
 |_,_=>none
def Nf (t:Ty):Nat→zT→Option (List t.den)
 |0,.fsl true s xs=>fx s t xs
 |0,.nsl=>some []
 |_,_=>none
def oW:(t:Ty)→t.den→Nat→zT→Option t.den
 |.int k,_,off,v=>Nc k off v
 |.bool,_,off,v=>Nd off v
 |.sl t,_,off,v=>Nf t off v
 |.pair a b,p,off,v=>bif Nat.blt off a.size then(match oW a p.1 off v with|some x=>some (x,p.2)|none=>none)
   else(match oW b p.2 (off-a.size) v with|some y=>some (p.1,y)|none=>none)
def oX (t:Ty):t.den→Nat→List zT→Option t.den
 |x,_,[]=>some x
 |x,off,v::vs=>match oW t x off v with
  |some y=>oX t y (off+1) vs
  |none=>none
def D5 (t:Ty)(vs:List zT):Option t.den:=bif Nat.beq vs.length t.size then oX t t.dflt 0 vs else none
def qZ {α:Type}(xs:List α)(lo n:Nat):List α:=(xs.drop lo).take n
def gA {α}(xs:List α):Option (Nat×Nat)→List α
 |none=>xs
 |some (lo,n)=>qZ xs lo n
def jJ:List (Option Ty)→Option Ty
 |[]=>none
 |[t]=>t
 |a::l=>match a,jJ l with
  |some x,some y=>some (.pair x y)
  |_,_=>none
def Io (P:Program):Nat→TypeId→Option Ty
 |0,_=>none
 |d+1,t=>match P.underlying t with
  |some (.int k)=>some (.int k)
  |some .bool=>some .bool
  |some (.slice e)=>(Io P d e).map .sl
  |some (.struct fs)=>jJ (fs.toList.map fun f=>Io P d f.type)
  |some (.array n e)=>jJ (List.replicate n (Io P d e))
  |_=>none
def fy:Ty→List Value
 |.int k=>[.int k 0]
 |.bool=>[.bool false]
 |.sl _=>[.slice none 0 0]
 |.pair a b=>fy a++fy b
def Ng:Value→Value→Bool
 |.int j a,.int k b=>jY j k&&decide (a=b)
 |.bool a,.bool b=>bif a then b else !b
 |.slice none 0 0,.slice none 0 0=>true
 |_,_=>false
def D6:List Value→List Value→Bool
 |[],[]=>true
 |a::l,b::m=>Ng a b&&D6 l m
 |_,_=>false
def gW (P:Program)(e:TypeId):Option Ty:=match Io P 8 e,P.info? e with
 |some t,some i=>match i.zero with
  |some z=>bif Nat.beq i.size t.size&&D6 z.cells.toList (fy t) then some t else none
  |none=>none
 |_,_=>none
def wU (P:Program)(t:TypeId):Option Bool:=match P.underlying t with
 |some (.struct _)|some (.array _ _)=>some true
 |some _=>some false
 |none=>none
def zeroCells (P:Program)(t:TypeId):Option (List zT):=match P.info? t with
 |some i=>match i.zero with
  |some v=>bif Nat.beq v.cells.size i.size&&v.cells.toList.all uf then some (v.cells.toList.map ue) else none
  |none=>none
 |none=>none
def nz (agg:Option Bool)(vs:List zT):Option zW:=match agg with
 |some true=>some (.agg vs)
 |some false=>match vs with
  |[v]=>some (.c v)
  |_=>none
 |none=>none
def yN.ofO:Option zW→yN
 |some v=>.one v
 |none=>.stuck
def kh (cells:List zT)(off n:Nat):Option (List zT):=
 bif Nat.ble (off+n) cells.length then some ((cells.drop off).take n) else none
def ug (cells:List zT)(off:Nat):List zT→Option (List zT)
 |[]=>some cells
 |v::vs=>bif Nat.blt off cells.length then ug (cells.set off v) (off+1) vs else none
def lJ:zW→Option (List zT)
 |.c v=>some [v]
 |.agg vs=>some vs
 |_=>none
def oY (f:(n:Nat)→BitVec n→BitVec n→BitVec n)(k:IntKind)(x y:Int):Int:=
 k.wrap (f k.bits (BitVec.ofInt k.bits x) (BitVec.ofInt k.bits y)).toNat
def Yd (op:BinOp)(k:IntKind)(x y:Int):yN:=match op with
 |.add=>.one (.c (.int k (k.wrap (x+y))))
 |.sub=>.one (.c (.int k (k.wrap (x-y))))
 |.mul=>.one (.c (.int k (k.wrap (x*y))))
 |.quo=>.when (!decide (y=0)) (.c (.int k (k.wrap (x.tdiv y))))
 |.rem=>.when (!decide (y=0)) (.c (.int k (x.tmod y)))
 |.and=>.one (.c (.int k (oY (fun _ a b=>a&&&b) k x y)))
 |.or=>.one (.c (.int k (oY (fun _ a b=>a|||b) k x y)))
 |.xor=>.one (.c (.int k (oY (fun _ a b=>a^^^b) k x y)))
 |.andNot=>.one (.c (.int k (oY (fun _ a b=>a&&&~~~b) k x y)))
 |.eql=>.one (.c (.bool (decide (x=y))))
 |.neq=>.one (.c (.bool (!decide (x=y))))
 |.lss=>.one (.c (.bool (decide (x<y))))
 |.leq=>.one (.c (.bool (decide (x≤y))))
 |.gtr=>.one (.c (.bool (decide (x>y))))
 |.geq=>.one (.c (.bool (decide (x≥y))))
 |_=>.stuck
def Ye (op:BinOp)(k:IntKind)(x y:Int):yN:=match op with
 |.shl=>.when (!decide (y<0)) (.c (.int k (k.wrap (x*2^(min y.toNat k.bits)))))
 |.shr=>.when (!decide (y<0)) (.c (.int k (x.fdiv (2^(min y.toNat k.bits)))))
 |_=>.stuck
def gX (a b:Bool):Bool:=bif a then b else !b
def eK:List zT→List zT→Option Bool
 |[],[]=>some true
 |[.int j a],[.int k b]=>bif jY j k then some (decide (a=b)) else none
 |.int j a::l,.int k b::m=>bif jY j k then(match eK l m with|some r=>some (decide (a=b)&&r)|none=>none) else none
 |[.bool a],[.bool b]=>some (gX a b)
 |.bool a::l,.bool b::m=>match eK l m with|some r=>some (gX a b&&r)|none=>none
 |_,_=>none
def Ip (P:Program)(rec:TypeId→Option (List (Option IntKind))):Nat→List Field→Option (List (Option IntKind))
 |_,[]=>some []
 | i, f :: l => bif Nat.beq f.offset i && !(f.name == "_") then (match rec f.type,Ip P rec (i+P.cellsOf f.type) l with
  |some a,some r=>bif Nat.beq a.length (P.cellsOf f.type)&&Nat.blt 0 a.length then some (a++r) else none
  |_,_=>none) else none
def uh {α:Type}:Nat→List α→List α
 |0,_=>[]
 |n+1,l=>l++uh n l
def xV (P:Program):Nat→TypeId→Option (List (Option IntKind))
 |0,_=>none
 |d+1,t=>match P.underlying t with
  |some (.int k)=>some [some k]
  |some .bool=>some [none]
  |some (.struct fs)=>Ip P (xV P d) 0 fs.toList
  |some (.array n e)=>match xV P d e with
   |some a=>bif Nat.beq a.length (P.cellsOf e)&&Nat.blt 0 a.length then some (uh n a) else none
   |none=>none
  |_=>none
def Yf (P:Program)(t:TypeId):Option (List (Option IntKind)):=match P.underlying t with
 |some (.struct _)=>xV P 8 t
 |_=>none
def eX:List (Option IntKind)→List zT→Bool
 |[],[]=>true
 |some k::l,.int j _::cs=>jY j k&&eX l cs
 |none::l,.bool _::cs=>eX l cs
 |_,_=>false
def Iq (P:Program)(t:TypeId)(a b:List zT):Option Bool:=match Yf P t with
 |some ks=>bif eX ks a&&eX ks b then eK a b else none
 |none=>none
def Nh (d:TypeDesc)(y:Operand)(x:zT):Option Bool:=match d,y,x with
 |.slice _,.const (.slice none 0 0),.nsl=>some true
 |.slice _,.const (.slice none 0 0),.nfl _ _ _=>some false
 |.pointer _,.const (.pointer none),.nilp=>some true
 |.pointer _,.const (.pointer none),.ptr _ _|.pointer _,.const (.pointer none),.eptr _ _ _|.pointer _,.const (.pointer none),.fptr _ _ _ _=>some false
 |.func _ _ _,.const .nilFunc,.nilf=>some true
 |.func _ _ _,.const .nilFunc,.fn _ _=>some false
 |.map _ _,.const (.map none),.nilm=>some true
 |.map _ _,.const (.map none),.map _=>some false
 |_,_,_=>none
def nA:BinOp→Bool→Bool
 |.eql,b=>b
 |_,b=> !b
def Ni:BinOp→Bool
 |.eql|.neq=>true
 |_=>false
def Nj:Operand→Bool
 |.const (.slice none 0 0)|.const (.pointer none)|.const .nilFunc|.const (.map none)=>true
 |_=>false
def lK (xs:List Int):List UInt8:=xs.map fun n=>UInt8.ofNat n.toNat
def Ir (xs ys:List Int):Bool:=lK xs==lK ys
def Is (P:Program)(t:TypeId):Bool:=match P.underlying t with
 |some .bool=>true
 |_=>false
def Nk (P:Program)(eqT:TypeId→Bool)(op:BinOp)(fz:TypeId)(ox oy:Operand)(x y:zW):yN:=match op,x,y with
 |.shl,.c (.int k a),.c (.int _ b)|.shr,.c (.int k a),.c (.int _ b)=>Ye op k a b
 |_,.c (.int k a),.c (.int j b)=>bif jY k j then Yd op k a b else .stuck
 |.eql,.c (.bool a),.c (.bool b)=>bif Is P fz then .one (.c (.bool (gX a b))) else .stuck
 |.neq,.c (.bool a),.c (.bool b)=>bif Is P fz then .one (.c (.bool (!gX a b))) else .stuck
 |.eql,.c (.str a),.c (.str b)=>.one (.c (.bool (Ir a b)))
 |.neq,.c (.str a),.c (.str b)=>.one (.c (.bool (!Ir a b)))
 |.eql,.agg a,.agg b=>bif eqT fz then(match Iq P fz a b with|some r=>.one (.c (.bool r))|none=>.stuck) else .stuck
 |.neq,.agg a,.agg b=>bif eqT fz then(match Iq P fz a b with|some r=>.one (.c (.bool (!r)))|none=>.stuck) else .stuck
 |_,_,_=>.stuck
def Nl (op:UnOp)(x:zW):yN:=match op,x with
 |.not,.c (.bool b)=>.one (.c (.bool (!b)))
 |.neg,.c (.int k n)=>.one (.c (.int k (k.wrap (0-n))))
 |_,_=>.stuck
def gY (h:Hp):zT→Option ((t:Ty)×List t.den)
 |.fsl _ t xs=>some ⟨t,xs⟩
 |.osl id r=>match h id with
  |some (.arr _ t xs)=>some ⟨t,gA xs r⟩
  |some (.mat _ xs)=>match r with
   |none=>some ⟨.sl (.int .i64),xs⟩
   |some _=>none
  |_=>none
 |.mrow id i ver=>match h id with
  |some (.mat v xs)=>bif Nat.beq v ver then some ⟨.int .i64,xs.getD i []⟩ else none
  |_=>none
 |_=>none
def xW (h:Hp):zT→Option (List Int)
 |.nsl=>some []
 |c=>match gY h c with
  |some ⟨.int .u8,xs⟩=>some xs
  |_=>none
def xX (h:Hp)(v:zT):Option Nat:=match v with
 |.nsl=>some 0
 |.bsl _ _ n=>some n
 |v=>match gY h v with
  |some ⟨_,xs⟩=>some xs.length
  |none=>none
def xY (h:Hp):zT→Option Nat
 |.fsl _ _ xs=>some xs.length
 |.osl id none=>match h id with
  |some (.arr _ _ xs)=>some xs.length
  |_=>none
 |_=>none
def lL (h:Hp):zT→Option (zT×yV)
 |.osl id r=>match h id with
  |some (.arr _ t xs)=>some (.fsl true t (gA xs r),[(id,.arr false t xs)])
  |some (.mat _ xs)=>match r with
   |none=>some (.fsl true (.sl (.int .i64)) xs,[(id,.arr false (.sl (.int .i64)) xs)])
   |some _=>none
  |_=>none
 |.mrow _ _ _=>none
 |v=>some (v,[])
def kR (h:Hp):List zT→Option (List zT×yV)
 |[]=>some ([],[])
 |v::vs=>match lL h v,kR h vs with
  |some (v,u),some (vs,us)=>some (v::vs,u++us)
  |_,_=>none
def zC (i:Int)(n:Nat):Bool:=decide (0≤i)&&decide (i<(n:Int))
def xZ (i:Int)(mk:Nat→zT):Nat→Nat→List (Bool×zW×yV)
 |_,0=>[]
 |j,n+1=>(decide (i=(j:Int)),.c (mk j),[])::xZ i mk (j+1) n
def D7 (P:Program)(t:TypeId)(cells:List zT)(off:Nat):yN:=.ofO ((kh cells off (P.cellsOf t)).bind (nz (wU P t)))
def ya (P:Program)(h:Hp)(t:TypeId)(a:zW):yN:=
 match a with
 |.c (.ptr id off)=>match h id with
  |some (.box _ cells)=>D7 P t cells off
  |some (.robox cells)=>D7 P t cells off
  |_=>.stuck
 |.c (.fptr sh ty x off)=>D7 P t (cellsOf sh ty x) off
 |.c (.eptr id i off)=>match h id with
  |some (.arr _ ty xs)=>D7 P t (cellsOf true ty (xs.getD i ty.dflt)) off
  |_=>.stuck
 |.c (.mptr id i)=>match h id with
  |some (.mat ver _)=>match wU P t with|some false=>.one (.c (.mrow id i ver))|_=>.stuck
  |_=>.stuck
 |.c (.meptr id i j ver)=>match h id with
  |some (.mat v xs)=>bif Nat.beq v ver then(match wU P t with|some false=>.one (.c (.int .i64 ((xs.getD i []).getD j 0)))|_=>.stuck) else .stuck
  |_=>.stuck
 |_=>.stuck
def yc (P:Program)(h:Hp)(t:TypeId)(a v:zW):yN:=
 match lJ v with
 |none=>.stuck
 | some vs => bif Nat.beq vs.length (P.cellsOf t) && Nat.blt 0 vs.length then (match a with
  |.c (.ptr id off)=>match h id with
   |some (.box true cells)=>match ug cells off vs with
    |some cells=>.alts [(true,.undef,[(id,.box true cells)])]
    |none=>.stuck
   |_=>.stuck
  |.c (.eptr id i off)=>match h id,kR h vs with
   |some (.arr true ty xs),some (vs,u)=>match oX ty (xs.getD i ty.dflt) off vs with
    |some x=>bif u.any (fun p=>Nat.beq p.1 id) then .stuck else .alts [(true,.undef,u++[(id,.arr true ty (xs.set i x))])]
    |none=>.stuck
   |_,_=>.stuck
  |.c (.mptr id i)=>match h id,v with
   |some (.mat ver xs),.c (.osl jd none)=>match h jd with
    |some (.arr true (.int .i64) ys)=>.alts [(true,.undef,[(jd,.gone),(id,.mat (ver+1) (xs.set i ys))])]
    |_=>.stuck
   |some (.pmat ver xs n),.c (.osl jd none)=>match h jd with
    |some (.arr true (.int .i64) ys)=>.alts [(Nat.beq i xs.length,.undef,[(jd,.gone),(id,.pmat (ver+1) (xs++[ys]) n)])]
    |_=>.stuck
   |_,_=>.stuck
  |.c (.meptr id i j ver)=>match h id,v with
   |some (.mat v xs),.c (.int .i64 n)=>bif Nat.beq v ver then .alts [(true,.undef,[(id,.mat v (xs.set i ((xs.getD i []).set j n)))])] else .stuck
   |_,_=>.stuck
  |_=>.stuck) else .stuck
def Nm (P:Program)(s:TypeId)(a:zW)(f:Nat):yN:=match P.underlying s with
 |some (.struct fs)=>match fs[f]? with
  | some fd => bif Nat.beq (P.cellsOf fd.type) 0 then .stuck else (match a with
   |.c (.ptr id off)=>.one (.c (.ptr id (off+fd.offset)))
   |.c (.eptr id i off)=>.one (.c (.eptr id i (off+fd.offset)))
   |.c (.fptr sh t x off)=>.one (.c (.fptr sh t x (off+fd.offset)))
   |_=>.stuck)
  |none=>.stuck
 |_=>.stuck
def yd (P:Program)(h:Hp)(t:TypeId)(x i:zW):yN:=match P.underlying t,x,i with
 |some (.slice e),.c v,.c (.int _ i)=>match v with
  |.fsl sh ty xs=>bif Nat.beq (P.cellsOf e) ty.size then .when (zC i xs.length) (.c (.fptr sh ty (xs.getD i.toNat ty.dflt) 0)) else .stuck
  |.osl id r=>match h id with
   | some (.arr _ ty xs) => bif Nat.beq (P.cellsOf e) ty.size then (match r with
    |none=>.when (zC i xs.length) (.c (.eptr id i.toNat 0))
    |some (lo,n)=>.when (zC i n) (.c (.eptr id (lo+i.toNat) 0))) else .stuck
   | some (.mat _ xs) => bif Nat.beq (P.cellsOf e) 1 then (match r with
    |none=>.when (zC i xs.length) (.c (.mptr id i.toNat))
    |some _=>.stuck) else .stuck
   | some (.pmat _ _ n) => bif Nat.beq (P.cellsOf e) 1 then (match r with
    |none=>.when (zC i n) (.c (.mptr id i.toNat))
    |some _=>.stuck) else .stuck
   |_=>.stuck
  | .mrow id j ver => bif Nat.beq (P.cellsOf e) 1 then (match h id with
   |some (.mat v xs)=>bif Nat.beq v ver then .when (zC i (xs.getD j []).length) (.c (.meptr id j i.toNat ver)) else .stuck
   |_=>.stuck) else .stuck
  |_=>.stuck
 |some (.array n e),.c (.ptr id off),.c (.int _ i)=>bif Nat.beq (P.cellsOf e) 0 then .stuck else .alts (xZ i (fun j=>.ptr id (off+j*P.cellsOf e)) 0 n)
 |some (.array n e),.c (.eptr id q off),.c (.int _ i)=>bif Nat.beq (P.cellsOf e) 0 then .stuck else .alts (xZ i (fun j=>.eptr id q (off+j*P.cellsOf e)) 0 n)
 |some (.array n e),.c (.fptr sh t x off),.c (.int _ i)=>bif Nat.beq (P.cellsOf e) 0 then .stuck else .alts (xZ i (fun j=>.fptr sh t x (off+j*P.cellsOf e)) 0 n)
 |_,_,_=>.stuck
def Nn (P:Program)(t:TypeId)(x i:zW):yN:=match P.underlying t,x,i with
 |some (.array n e),.agg cs,.c (.int _ i)=>bif Nat.beq (P.cellsOf e) 1&&(match wU P e with|some false=>true|_=>false)&&Nat.beq cs.length n
   then .alts (xZ i (fun j=>cs.getD j .undef) 0 n) else .stuck
 |_,_,_=>.stuck
def No (P:Program)(s:TypeId)(x:zW)(f:Nat):yN:=match P.underlying s,x with
 |some (.struct fs),.agg cs=>match fs[f]? with
  |some fd=>match kh cs fd.offset (P.cellsOf fd.type) with
   |some vs=>.ofO (nz (wU P fd.type) vs)
   |none=>.stuck
  |none=>.stuck
 |_,_=>.stuck
def D8 (place:Nat→Option (Nat×Nat))(cells:List zT):List (Nat×zW)→Option (List zT)
 |[]=>some cells
 |(i,v)::rest=>match place i,lJ v with
  | some (off, size), some vs => bif Nat.beq vs.length size && Nat.ble (off + size) cells.length then (match ug cells off vs with
   |some cells=>D8 place cells rest
   |none=>none) else none
  |_,_=>none
def Np (P:Program)(t:TypeId)(parts:List (Nat×zW)):yN:=match zeroCells P t with
 |none=>.stuck
 |some zero=>match P.underlying t with
  | some (.struct fs) => bif fs.toList.all (fun f => (P.info? f.type).isSome) then (match D8 (fun i=>(fs[i]?).map fun f=>(f.offset,P.cellsOf f.type)) zero parts with
   |some cells=>.one (.agg cells)
   |none=>.stuck) else .stuck
  | some (.array _ e) => bif (P.info? e).isSome then (match D8 (fun i=>some (i*P.cellsOf e,P.cellsOf e)) zero parts with
   |some cells=>.one (.agg cells)
   |none=>.stuck) else .stuck
  |_=>.stuck
def ui (h:Hp):zW→Option (List Int×yV)
 |.c (.osl jd none)=>match h jd with
  |some (.arr true (.int .i64) ys)=>some (ys,[(jd,.gone)])
  |_=>none
 |.c .nsl=>some ([],[])
 |_=>none
def uj (h:Hp)(rows:List (List Int)):List (Nat×zW)→Option (List (List Int)×yV)
 |[]=>some (rows,[])
 |(i,v)::rest=>match ui h v with
  |some (r,u)=>match uj h (rows.set i r) rest with
   |some (rows,us)=>some (rows,u++us)
   |none=>none
  |none=>none
def nB (h:Hp)(t:Ty)(xs:List t.den):List (Nat×zW)→Option (List t.den×yV)
 |[]=>some (xs,[])
 |(i,v)::rest=>match lJ v with
  |some vs=>match kR h vs with
   |some (vs,u)=>match D5 t vs with
    |some x=>match nB h t (xs.set i x) rest with
     |some (xs,us)=>some (xs,u++us)
     |none=>none
    |none=>none
   |none=>none
  |none=>none
def oZ:List Nat→Bool
 |[]=>true
 |a::l=> !(l.any (Nat.beq a))&&oZ l
def ye (P:Program)(mat:Bool)(nm:Nat)(h:Hp)(t:TypeId)(n:Nat)(parts:List (Nat×zW)):yN:=
 match P.underlying t,h nm with
 |some (.slice e),none=>bif Nat.ble (n*P.cellsOf e) 16777216 then
   (bif mat then (match gW P e,uj h (List.replicate n []) parts with
    |some (.sl (.int .i64)),some (rows,u)=>bif oZ (u.map (·.1))&&parts.all (fun p=>Nat.blt p.1 n) then .alts [(true,.c (.osl nm none),u++[(nm,.mat 0 rows)])] else .stuck
    |_,_=>.stuck)
   else (match gW P e with
    |some ty=>match nB h ty (List.replicate n ty.dflt) parts with
     |some (xs,u)=>bif parts.all (fun p=>Nat.blt p.1 n) then .alts [(true,.c (.osl nm none),u++[(nm,.arr true ty xs)])] else .stuck
     |none=>.stuck
    |none=>.stuck)) else .stuck
 |_,_=>.stuck
def yf (P:Program)(mat:Bool)(nm:Nat)(h:Hp)(t:TypeId)(l c:zW):yN:=
 match P.underlying t,h nm,l,c with
 |some (.slice e),none,.c (.int .i64 l),.c (.int .i64 c)=>
   let ok:=decide (0≤l)&&decide (l≤c)&&decide (c*(P.bytesOf e:Int)≤140737488355328)&&decide (c≤140737488355328)
   bif mat then (match gW P e with
    |some (.sl (.int .i64))=>.alts [(ok,.c (.osl nm none),[(nm,.mat 0 (List.replicate l.toNat []))])]
    |_=>.stuck)
   else (match gW P e with
    |some ty=>.alts [(ok,.c (.osl nm none),[(nm,.arr true ty (List.replicate l.toNat ty.dflt))])]
    |none=>.stuck)
 |_,_,_,_=>.stuck
def D9 (P:Program)(t:TypeId):Bool:=match P.underlying t with
 | some (.map k e) => (match P.underlying k,(P.info? e).bind (·.zero) with
  |some (.int .i64),some (.bool false)=>true
  |_,_=>false)
 |_=>false
def yg (P:Program)(nm:Nat)(h:Hp)(t:TypeId):yN:=
 match h nm with
 |none=>bif D9 P t then .alts [(true,.c (.map nm),[(nm,.imap [])])] else .stuck
 |some _=>.stuck
def yh (P:Program)(h:Hp)(t:TypeId)(x i:zW):yN:=
 match x,i with
 | .c (.map id), .c (.int .i64 n) => (match h id with
  |some (.imap cL)=>bif D9 P t then .one (.c (.bool ((cL.lookup n).getD false))) else .stuck
  |_=>.stuck)
 |_,_=>.stuck
def yi (P:Program)(h:Hp)(t:TypeId)(x i v:zW):yN:=
 match x,i,v with
 | .c (.map id), .c (.int .i64 n), .c (.bool b) => (match h id with
  |some (.imap cL)=>bif D9 P t then .alts [(true,.undef,[(id,.imap ((n,b)::cL))])] else .stuck
  |_=>.stuck)
 |_,_,_=>.stuck
def rL (len:Nat)(lo hi:Option zW):Option (Bool×Nat×Nat):=
 match lo,hi with
 |none,none=>some (true,0,len)
 |some (.c (.int _ l)),none=>some (decide (0≤l)&&decide (l≤(len:Int)),l.toNat,len)
 |none,some (.c (.int _ u))=>some (decide (0≤u)&&decide (u≤(len:Int)),0,u.toNat)
 |some (.c (.int _ l)),some (.c (.int _ u))=>some (decide (0≤l)&&decide (l≤u)&&decide (u≤(len:Int)),l.toNat,u.toNat)
 |_,_=>none
def uk:List zT→Option (List Int)
 |[]=>some []
 |.int .i64 n::l=>match uk l with|some r=>some (n::r)|none=>none
 |_=>none
def Nq (len:Nat):Option (Nat×Nat)→Option zW→Nat
 |none,_=>len
 |some p,none=>p.2
 |some p,some _=>len-p.1
def yj (P:Program)(h:Hp)(t:TypeId)(x:zW)(lo hi mx:Option zW):yN:=
 match P.underlying t,mx,x with
 | some (.slice e), none, .c (.fsl sh ty xs) => bif Nat.beq (P.cellsOf e) ty.size then (match rL xs.length lo hi with
  | some (ok, l, u) => .when ok (.c (.fsl sh ty (match lo,hi with
   |none,none=>xs
   |some _,none=>xs.drop l
   |none,some _=>xs.take u
   |some _,some _=>qZ xs l (u-l))))
  |none=>.stuck) else .stuck
 |some (.slice e),none,.c (.osl id r)=>match h id with
  | some (.arr _ ty xs) => bif Nat.beq (P.cellsOf e) ty.size then (match rL (Nq xs.length r hi) lo hi with
   |some (ok,l,u)=>.when ok (.c (.osl id (some ((match r with|none=>0|some p=>p.1)+l,u-l))))
   |none=>.stuck) else .stuck
  |_=>.stuck
 |some (.slice e),some (.c (.int _ m)),.c (.osl id none)=>match h id with
  | some (.arr _ ty xs) => bif Nat.beq (P.cellsOf e) ty.size then (match lo,hi,rL xs.length lo hi with
   |some _,some _,some (ok,_,u)=>.when (ok&&decide ((u:Int)≤m)&&decide (m≤(xs.length:Int))) (.c .undef)
   |_,_,_=>.stuck) else .stuck
  |_=>.stuck
 | some (.array n e), none, .c (.ptr id off) => bif Nat.beq (P.cellsOf e) 1 then (match h id with
  |some (.box own cells)=>match lo,hi with
   |none,none=>bif Nat.ble (off+n) cells.length then .one (.c (.bsl id off n)) else .stuck
   |_,_=>match kh cells off n with
    |some vs=>match uk vs,rL n lo hi with
     |some ns,some (ok,l,u)=>.alts [(ok,.c (.fsl true (.int .i64) (qZ ns l (u-l))),bif own then[(id,.box false cells)] else[])]
     |_,_=>.stuck
    |none=>.stuck
  |_=>.stuck) else .stuck
 |_,_,_=>.stuck
def o0 (h:Hp)(t:Ty):zT→Option (List t.den×yV)
 |.nsl=>some ([],[])
 |.fsl sh s xs=>bif sh||s.flat then(fx s t xs).map (·,[]) else none
 |.nfl sh s xs=>bif sh||s.flat then(fx s t xs).map (·,[]) else none
 |.osl id r=>match h id with
  |some (.arr _ s xs)=>(fx s t (gA xs r)).map (·,[])
  |_=>none
 |_=>none
def yk (P:Program)(mat:Bool)(nm:Nat)(h:Hp)(t:TypeId)(b x:zW):yN:=
 match P.underlying t,h nm,b,x with
 |some (.slice e),none,.c b,.c x=>match gW P e with
  |none=>.stuck
  |some ty=>
   let room (n:Nat):Bool:=Nat.ble (n*P.bytesOf e) 140737488355328&&Nat.ble n 140737488355328
   bif mat then (match ty,b,x with
    |.sl (.int .i64),.osl id none,.osl jd none=>match h id,h jd with
     |some (.mat _ xs),some (.mat _ ys)=>bif Nat.beq id jd then .stuck else
       .alts [(room (xs.length+ys.length),.c (.osl nm none),[(id,.gone),(jd,.gone),(nm,.mat 0 (xs++ys))])]
     |_,_=>.stuck
    |_,_,_=>.stuck)
   else (match b with
    |.nsl=>match o0 h ty x with
     |some (ys,u)=>.alts [(room ys.length,.c (.osl nm none),u++[(nm,.arr true ty ys)])]
     |none=>.stuck
    |.osl id r=>match h id with
     |some (.arr true s fB)=>match fx s ty (gA fB r),o0 h ty x with
      | some xs, some (ys, u) => (match r with
       | some (0, _) | none => (bif (match x with | .osl jd _ => Nat.beq id jd | _ => false) then (match r,x,fx s ty fB with
         |some (0,i),.osl _ (some (j,m)),some zs=>.alts [(Nat.ble i j,.c (.osl nm (some (0,i+m))),[(id,.gone),(nm,.arr true ty (zs.take i++qZ zs j m++zs.drop (i+m)))])]
         |_,_,_=>.stuck) else
         .alts [(room (xs.length+ys.length),.c (.osl nm none),u++[(id,.gone),(nm,.arr true ty (xs++ys))])])
       |_=>.stuck)
      |_,_=>.stuck
     |_=>.stuck
    |_=>.stuck)
 |_,_,_,_=>.stuck
def um (xs:List Int):Nat→List zT→List zT
 |_,[]=>[]
 |i,.int .i64 n::cs=>.int .i64 (bif Nat.blt i xs.length then xs.getD i 0 else n)::um xs (i+1) cs
 |i,c::cs=>c::um xs (i+1) cs
def yl (h:Hp)(d s:zW):yN:=match d,s with
 |.c (.bsl id off n),.c s=>match h id,(match s with|.nsl=>some ⟨.int .i64,[]⟩|s=>gY h s:Option ((t:Ty)×List t.den)) with
  |some (.box true cells),some ⟨.int .i64,ys⟩=>match kh cells off n with
   |some vs=>match uk vs with
    |some _=>.alts [(true,.c (.int .i64 ((min ys.length n:Nat):Int)),[(id,.box true (cells.take off++um ys 0 vs++cells.drop (off+n)))])]
    |none=>.stuck
   |none=>.stuck
  |_,_=>.stuck
 |_,_=>.stuck
def Iu (P:Program)(h:Hp)(t:TypeId)(id lo n:Nat):yN:=match P.underlying t,h id with
 |some (.slice e),some (.arr true s xs)=>match gW P e with
  |some ty=>bif ny ty s then .alts [(true,.undef,[(id,.arr true s (xs.take lo++List.replicate n s.dflt++xs.drop (lo+n)))])] else .stuck
  |none=>.stuck
 |_,_=>.stuck
def Iv (lt:Bool):List zW→yN
 |[.c (.int k x),.c (.int _ y)]=>.one (.c (.int k (bif lt then(bif decide (y<x) then y else x) else(bif decide (y>x) then y else x))))
 |[.c (.int k x),.c (.int _ y),.c (.int _ z)]=>
  let m (a b:Int):Int:=bif lt then(bif decide (b<a) then b else a) else(bif decide (b>a) then b else a)
  .one (.c (.int k (m (m x y) z)))
 |_=>.stuck
abbrev Iw:=Nat→Nat→Nat→List zW→Hp→yN
inductive CS where
 |int (k:IntKind)|bool|dat (sh:Bool) (t:Ty)|lit (v:zT)
inductive VS where
 |c (x:CS)|agg (l:List CS)
inductive OS where
 |box (own:Bool) (l:List CS)|robox (l:List CS)|arr (own:Bool) (t:Ty)|mat|pmat|imap
abbrev SL:List CS→Type
 |[]=>Unit
 |.int _::l=>Int×SL l
 |.bool::l=>Bool×SL l
 |.dat _ t::l=>List t.den×SL l
 |.lit _::l=>SL l
def VS.cells:VS→List CS
 |.c x=>[x]
 |.agg l=>l
abbrev SV:List (Nat×VS)→Type
 |[]=>Unit
 |s::l=>SL s.2.cells×SV l
abbrev OS.den:OS→Type
 |.box _ l=>SL l
 |.robox l=>SL l
 |.arr _ t=>List t.den
 |.mat=>List (List Int)
 |.pmat=>List (List Int)×Nat
 |.imap=>List (Int×Bool)
abbrev OL:List OS→Type
 |[]=>Unit
 |o::l=>o.den×OL l
structure zE where
 slots:List (Nat×VS)
 objs:List OS
 grow:List (Nat×Option Nat×Ty×Bool)
abbrev zE.den (S:zE):Type:=SV S.slots×OL S.objs
def Ix:List Nat→List Nat→Bool
 |[],[]=>true
 |a::l,b::m=>Nat.beq a b&&Ix l m
 |_,_=>false
def Nr:zT→zT→Bool
 |.undef,_=>true
 |.nsl,.nsl|.nilp,.nilp|.nilf,.nilf|.nilm,.nilm=>true
 |.osl a none,.osl b none=>Nat.beq a b
 |.bsl a i n,.bsl b j m=>Nat.beq a b&&Nat.beq i j&&Nat.beq n m
 |.ptr a i,.ptr b j=>Nat.beq a b&&Nat.beq i j
 |.fn f c,.fn g d=>Nat.beq f g&&Ix c d
 |.map a,.map b=>Nat.beq a b
 |_,_=>false
def ki:(l:List CS)→List zT→Option (SL l)
 |[],[]=>some ()
 |.int k::l,.int j n::vs=>bif jY j k then(match ki l vs with|some d=>some (n,d)|none=>none) else none
 |.bool::l,.bool b::vs=>match ki l vs with|some d=>some (b,d)|none=>none
 | .dat sh t :: l, .fsl Ea s xs :: vs => bif Ea || !sh then (match fx s t xs,ki l vs with
  |some xs,some d=>some (xs,d)
  |_,_=>none) else none
 |.dat _ _::l,.nsl::vs=>match ki l vs with|some d=>some ([],d)|none=>none
 |.lit c::l,v::vs=>bif Nr c v then ki l vs else none
 |_,_=>none
def Ns (v:VS)(a:zW):Option (SL v.cells):=match v,a with
 |.c x,.c y=>ki [x] [y]
 |.agg l,.agg vs=>ki l vs
 |_,_=>none
def Iy (o:OS)(x:Obj):Option o.den:=match o,x with
 |.box own l,.box kS cells=>bif own==kS then ki l cells else none
 |.robox l,.robox cells=>ki l cells
 |.arr own t,.arr kS s xs=>bif own==kS then fx s t xs else none
 |.mat,.mat _ xs=>some xs
 |.pmat,.pmat _ xs n=>some (xs,n)
 |.imap,.imap cL=>some cL
 |_,_=>none
def mw:(l:List CS)→SL l→List zT
 |[],_=>[]
 |.int k::l,d=>.int k d.1::mw l d.2
 |.bool::l,d=>.bool d.1::mw l d.2
 |.dat sh t::l,d=>.fsl sh t d.1::mw l d.2
 |.lit c::l,d=>c::mw l d
def Nt (v:VS)(d:SL v.cells):zW:=match v,d with
 |.c x,d=>match mw [x] d with|c::_=>.c c|[]=>.undef
 |.agg l,d=>.agg (mw l d)
def Iz (o:OS)(d:o.den):Obj:=match o,d with
 |.box own l,d=>.box own (mw l d)
 |.robox l,d=>.robox (mw l d)
 |.arr own t,xs=>.arr own t xs
 |.mat,xs=>.mat 0 xs
 |.pmat,d=>.pmat 0 d.1 d.2
 |.imap,cL=>.imap cL
def ym:(l:List (Nat×VS))→SV l→List (Nat×zW)
 |[],_=>[]
 |s::l,d=>(s.1,Nt s.2 d.1)::ym l d.2
def o6:(l:List OS)→OL l→List Obj
 |[],_=>[]
 |o::l,d=>Iz o d.1::o6 l d.2
def zL (base:Nat)(S:zE)(d:S.den):St:=
  { t:=fun n=>match(ym S.slots d.1).lookup n with|some v=>v|none=>.undef,
    h:=fun n=>bif Nat.ble base n then(o6 S.objs d.2)[n-base]? else none}
inductive Ex where
 |normal|ret|exit (id:Nat)
def Nu:Ex→Ex→Bool
 |.normal,.normal|.ret,.ret=>true
 |.exit a,.exit b=>Nat.beq a b
 |_,_=>false
abbrev rM:List (Ex×zE)→Type
 |[]=>Empty
 |[p]=>p.2.den
 |p::q::l=>p.2.den⊕rM (q::l)
abbrev o9:List zE→Type
 |[]=>Empty
 |[S]=>S.den
 |S::T::l=>S.den⊕o9 (T::l)
structure zX where
 ins:List zE
 outs:List (Ex×zE)
 X:Type
 sum:Nat→o9 ins→Option X
 elim:Nat→X→(R:Type)→(Ex→St→Option R)→Option R
structure zY where
 mats:List Nat
 loops:List (Nat×zX)
 unr:List (Nat×Nat)
 wise:Bool
structure Env where
 P:Program
 eqT:TypeId→Bool
 sums:Iw
def nC (pre:Nat):Option Nat→Nat
 |some d=>pre+100*(d+1)
 |none=>pre
def rN:zW→Option Nat
 |.c (.ptr id 0)=>some id
 |_=>none
def Nv (P:Program)(mat:Bool)(nm:Nat)(h:Hp)(b:Builtin)(ts:Array TypeId)(l:List zW):yN:=match b with
 |.len=>match l with
  |[.c v]=>match(ts[0]?).bind P.underlying with
   |some (.slice _)=>match xX h v with
    |some n=>.one (.c (.int .i64 (n:Int)))
    |none=>.stuck
   |_=>.stuck
  |_=>.stuck
 |.append=>match l with
  |[b,x]=>match ts.toList with
   |[t,u]=>bif Nat.beq t u then yk P mat nm h t b x else .stuck
   |_=>.stuck
  |_=>.stuck
 |.copy=>match l with
  |[d,s]=>match(ts[0]?).bind P.underlying with
   |some (.slice e)=>bif Nat.beq (P.cellsOf e) 1 then yl h d s else .stuck
   |_=>.stuck
  |_=>.stuck
 |.clear=>match l with
  |[.c (.osl id (some (lo,n)))]=>match ts[0]? with
   |some t=>Iu P h t id lo n
   |none=>.stuck
  |_=>.stuck
 |.max=>Iv false l
 |.min=>Iv true l
 |_=>.stuck
def iM (E:Env)(A:zY)(k pre:Nat)(o:Oper)(ev:Operand→zW)(h:Hp):yN:=
 let nm:=nC pre o.dst;let mat:=match o.dst with|some d=>A.mats.any (Nat.beq d)|none=>false
 match o.op with
 |.move x|.assign x=>.one (ev x)
 |.pick c a b=>match ev c with
  |.c (.bool c)=>match ev a,ev b with
   |.c (.bool a),.c (.bool b)=>.one (.c (.bool (bif c then a else b)))
   |va,vb=>.alts [(c,va,[]),(true,vb,[])]
  |_=>.stuck
 |.alloc t=>match h nm,zeroCells E.P t with
  |none,some zs=>.alts [(true,.c (.ptr nm 0),[(nm,.box true zs)])]
  |_,_=>.stuck
 |.box t x=>match h nm,lJ (ev x) with
  |none,some vs=>.alts [(true,.c (.ptr nm 0),[(nm,.box (!mat) vs)])]
  |_,_=>.stuck
 |.build t parts=>Np E.P t (parts.toList.map fun p=>(p.1,ev p.2))
 |.buildSlice t n parts=>ye E.P mat nm h t n (parts.toList.map fun p=>(p.1,ev p.2))
 |.load t a=>ya E.P h t (ev a)
 |.store t a v=>yc E.P h t (ev a) (ev v)
 |.nilCheck x=>match ev x with
  |.c (.ptr a b)=>.one (.c (.ptr a b))
  |.c (.eptr a b c)=>.one (.c (.eptr a b c))
  |.c (.fptr s t x off)=>.one (.c (.fptr s t x off))
  |.c (.fn f c)=>.one (.c (.fn f c))
  |_=>.stuck
 |.binOp op t x y _=>
  bif Nj y && Ni op then (match E.P.underlying t,ev x with
   |some d,.c v=>match Nh d y v with
    |some b=>.one (.c (.bool (nA op b)))
    |none=>match d,y,xY h v with
     |.slice _,.const (.slice none 0 0),some n=>.when (Nat.blt 0 n) (.c (.bool (nA op false)))
     |_,_,_=>.stuck
   |_,_=>.stuck)
  else Nk E.P E.eqT op t x y (ev x) (ev y)
 |.unOp op _ x=>Nl op (ev x)
 |.convert s d x=>match E.P.underlying s,E.P.underlying d,ev x with
  |some (.int _),some (.int k),.c (.int _ n)=>.one (.c (.int k (k.wrap n)))
  |some (.slice e),some .string,.c c=>match E.P.underlying e,xW h c with
   |some (.int .u8),some xs=>.one (.c (.str xs))
   |_,_=>.stuck
  |_,_,_=>.stuck
 | .makeFunc (.func f) first captured => bif Nat.beq first.size 0 then (match captured.toList.mapM (fun x=>rN (ev x)) with
   |some ids=>.one (.c (.fn f ids))
   |none=>.stuck) else .stuck
 |.makeSlice t l c=>yf E.P mat nm h t (ev l) (ev c)
 |.makeMap t none=>yg E.P nm h t
 |.lookup t x i false=>yh E.P h t (ev x) (ev i)
 |.mapUpdate t x i y=>yi E.P h t (ev x) (ev i) (ev y)
 |.slice t x lo hi mx=>yj E.P h t (ev x) (lo.map ev) (hi.map ev) (mx.map ev)
 |.fieldAddr t x f=>Nm E.P t (ev x) f
 |.field t x f=>No E.P t (ev x) f
 |.indexAddr t x i=>yd E.P h t (ev x) (ev i)
 |.index t x i=>Nn E.P t (ev x) (ev i)
 |.extract t i=>match ev t with
  |.tup xs=>match xs[i]? with
   |some (g,vs)=>.ofO (nz (some g) vs)
   |none=>.stuck
  |_=>.stuck
 |.call c=>match c.callee with
  |.builtin b=>Nv E.P mat nm h b c.argTypes (c.args.toList.map ev)
  |.value f=>match ev f with
   |.c (.fn f cap)=>E.sums k nm f (c.args.toList.map ev++cap.map fun id=>.c (.ptr id 0)) h
   |_=>.stuck
  |_=>.stuck
 |_=>.stuck
structure yn where
 i:Nat
 nm:Nat
 upd:List Nat
 refs:Option (List Nat)
def yY:zT→List Nat
 |.osl id _|.bsl id _ _|.ptr id _|.eptr id _ _|.mrow id _ _|.mptr id _|.meptr id _ _ _|.map id=>[id]
 |.fn _ cap=>cap
 |_=>[]
def yF:zW→List Nat
 |.c v=>yY v
 |.agg vs=>vs.flatMap yY
 |.tup xs=>xs.flatMap fun x=>x.2.flatMap yY
 |_=>[]
def vS:zW→Bool
 |.c (.ptr _ _)|.c (.map _)|.c (.eptr _ _ _)|.c (.mptr _ _)|.c (.meptr _ _ _ _)|.c (.bsl _ _ _)=>true
 |.c (.fn _ cap)=> !cap.isEmpty
 |_=>false
def Nw:Op→Bool
 |.call {callee:=.value _,..}=>true
 |_=>false
def Yg:Op→Bool
 |.move _|.assign _|.nilCheck _|.fieldAddr _ _ _|.field _ _ _|.extract _ _=>true
 |_=>false
def nD (ev:Operand→zW)(o:Oper):Option (List Nat):=bif Yg o.op then some [] else
 let vals:=o.op.operands.toList.map ev
 bif Nw o.op&&vals.any vS then none else some (vals.flatMap yF)
def IA (a:List Nat):Option (List Nat)→Bool
 |none=> !a.isEmpty
 |some b=>a.any fun x=>b.any (Nat.beq x)
def kT (nm a:Nat):Bool:=Nat.ble nm a&&Nat.blt a (nm+100)
def pb (x y:yn):Bool:=IA x.upd y.refs||IA y.upd x.refs||x.upd.any (kT y.nm)||y.upd.any (kT x.nm)||x.upd.any fun a=>y.upd.any (Nat.beq a)
def kU (b:Array Nat)(i j:Nat):Bool:=(b.getD j 0).testBit i
def pc (ops:Array Oper)(i j:Nat):Bool:=match ops[i]?,ops[j]? with
 |some x,some y=>x.apart ops y
 |_,_=>false
def Eb (ops:Array Oper):Bool:=ops.toList.zipIdx.all fun p=>p.1.after.toList.all fun e=> !Region.binds .any e||Nat.blt e.on p.2
def rO (na nt:Nat):Option Nat→Bool
 |some d=>Nat.ble na d&&Nat.blt d nt
 |none=>true
def jC (u:yV):List Nat:=u.map (·.1)
section
variable (E:Env) (A:zY) (k pre na nt:Nat) {R:Type}
def IB (o:Oper)(st:St)(K:zW→yV→St→Option R):Option R:=
 bif rO na nt o.dst then
  (iM E A k pre o st.ev st.h).elim fun v u=>K v u {t:=gz st.t o.dst v,h:=qF st.h u}
 else none
def IC (ops:Array Oper)(j:Nat):Option Nat:=(ops[j]?).bind (·.dst)
def ID (ops:Array Oper)(o:Oper)(st:St)(yes no:St→Option R):Option R:=match o.guard with
 |none=>yes st
 |some (j,want)=>match IC ops j with
  |none=>none
  |some s=>match st.t s with
   |.c (.bool b)=>bif b then(let st:={st with t:=wM st.t s (.c (.bool true))};bif want then yes st else no st)
     else(let st:={st with t:=wM st.t s (.c (.bool false))};bif want then no st else yes st)
   |.skp=>no st
   |_=>none
def IE (ops:Array Oper):List (Nat×Oper)→St→(St→Option R)→Option R
 |[],st,K=>K st
 |(_,o)::rest,st,K=>ID ops o st
   (fun st=>IB E A k pre na nt o st fun _ _ st=>IE ops rest st K)
   (fun st=>bif rO na nt o.dst then IE ops rest {st with t:=gz st.t o.dst .skp} K else none)
def yo (ops:Array Oper)(b:Array Nat):List (Nat×Oper)→List yn→St→(St→Option R)→Option R
 |[],_,st,K=>K st
 |(i,o)::rest,done,st,K=>
  bif done.all fun d=>kU b d.i i||pc ops d.i i then ID ops o st
   (fun st=>let r:=nD st.ev o;IB E A k pre na nt o st fun _ u st=>
    let x:yn:=⟨i,nC pre o.dst,jC u,r⟩
    bif done.all fun d=>kU b d.i i|| !pb d x then yo ops b rest (x::done) st K else none)
   (fun st=>bif rO na nt o.dst then yo ops b rest (⟨i,nC pre o.dst,[],some []⟩::done) {st with t:=gz st.t o.dst .skp} K else none)
  else none
def yZ6:Option Obj→List Nat
 |some (.box _ cells)=>cells.flatMap yY
 |some (.robox cells)=>cells.flatMap yY
 |_=>[]
def yp (h:Hp):Nat→List Nat→List Nat→List Nat
 |0,_,seen=>seen
 |_,[],seen=>seen
 |n+1,id::todo,seen=>bif seen.any (Nat.beq id) then yp h n todo seen else yp h n (yZ6 (h id)++todo) (seen++[id])
def jE (id:Nat):List Nat→Nat→Option Nat
 |[],_=>none
 |a::l,i=>bif Nat.beq a id then some i else jE id l (i+1)
def rP (h:Hp)(ρ:Nat→Option Nat):zT→zT
 |.osl id r=>match ρ id with|some i=>.osl i r|none=>.undef
 |.bsl id a b=>match ρ id with|some i=>.bsl i a b|none=>.undef
 |.ptr id a=>match ρ id with|some i=>.ptr i a|none=>.undef
 |.eptr id a b=>match ρ id with|some i=>.eptr i a b|none=>.undef
 |.mrow id a ver=>match ρ id,h id with
  |some i,some (.mat v _)=>bif Nat.beq v ver then .mrow i a 0 else .undef
  |_,_=>.undef
 |.mptr id a=>match ρ id with|some i=>.mptr i a|none=>.undef
 |.meptr id a b ver=>match ρ id,h id with
  |some i,some (.mat v _)=>bif Nat.beq v ver then .meptr i a b 0 else .undef
  |_,_=>.undef
 |.map id=>match ρ id with|some i=>.map i|none=>.undef
 |.fn f cap=>match cap.mapM ρ with|some c=>.fn f c|none=>.undef
 |v=>v
def Yh (h:Hp)(ρ:Nat→Option Nat):zW→zW
 |.c v=>.c (rP h ρ v)
 |.agg vs=>.agg (vs.map (rP h ρ))
 |.tup xs=>.tup (xs.map fun x=>(x.1,x.2.map (rP h ρ)))
 |v=>v
def rQ (h:Hp)(ρ:Nat→Option Nat):Obj→Obj
 |.box own cells=>.box own (cells.map (rP h ρ))
 |.robox cells=>.robox (cells.map (rP h ρ))
 |.mat _ xs=>.mat 0 xs
 |.pmat _ xs n=>.pmat 0 xs n
 |o=>o
def fD:Nat:=1000000
def Nx (st:St)(s:Nat):Option Nat→St
 |none=>match st.t s with
  |.c c=>match lL st.h c with
   |some (c',u)=>{t:=wM st.t s (.c c'),h:=qF st.h u}
   |none=>st
  |_=>st
 |some j=>match st.t s with
  |.c (.ptr id 0)=>match st.h id with
   |some (.box true cells)=>match cells[j]? with
    |some c=>match lL st.h c with
     |some (c',u)=>{st with h:=qW (qF st.h u) id (.box true (cells.set j c'))}
     |none=>st
    |none=>st
   |_=>st
  |.agg cells=>match cells[j]? with
   |some c=>match lL st.h c with
    |some (c',u)=>{t:=wM st.t s (.agg (cells.set j c')),h:=qF st.h u}
    |none=>st
   |none=>st
  |_=>st
def Yi:Ty→Bool
 |.bool=>true
 |_=>false
def Ny (st:St)(nm:Nat)(g:Nat×Option Nat×Ty×Bool):St:=bif g.2.2.2&&Yi g.2.2.1 then Nx st g.1 g.2.1 else match g.2.1 with
 |none=>match st.t g.1 with
  |.c .nsl=>{t:=wM st.t g.1 (.c (.osl nm none)),h:=qW st.h nm (bif g.2.2.2 then .mat 0 [] else .arr true g.2.2.1 [])}
  |_=>st
 |some j=>match st.t g.1 with
  |.c (.ptr id 0)=>match st.h id with
   |some (.box true cells)=>match cells[j]? with
    |some .nsl=>{st with h:=qW (qW st.h nm (bif g.2.2.2 then .mat 0 [] else .arr true g.2.2.1 [])) id (.box true (cells.set j (.osl nm none)))}
    |_=>st
   |_=>st
  |_=>st
def IF (st:St):Nat→List (Nat×Option Nat×Ty×Bool)→Option St
 |_,[]=>some st
 |nm,g::l=>match st.h nm with
  |none=>IF (Ny st nm g) (nm+1) l
  |some _=>none
def uo (base : Nat) (h : Hp) (ids : List Nat) : Hp := fun n => bif Nat.ble base n then (match ids[n-base]? with
 |some id=>(h id).map (rQ h fun i=>(jE i ids 0).map (base+·))
 |none=>none) else none
def IG (f:zW→zW)(t:Nat→zW):(l:List (Nat×VS))→Option (SV l)
 |[]=>some ()
 |s::l=>match Ns s.2 (f (t s.1)),IG f t l with
  |some d,some ds=>some (d,ds)
  |_,_=>none
def IH (f:Obj→Obj)(h:Hp):(l:List OS)→List Nat→Option (OL l)
 |[],[]=>some ()
 |o::l,id::ids=>match(h id).bind fun x=>Iy o (f x),IH f h l ids with
  |some d,some ds=>some (d,ds)
  |_,_=>none
 |_,_=>none
def Nz (g0 base n:Nat)(S:zE)(st:St):Option S.den:=match IF st g0 S.grow with
 |none=>none
 |some st=>
  let ids:=yp st.h n (S.slots.flatMap fun s=>yF (st.t s.1)) []
  match IG (Yh st.h fun i=>(jE i ids 0).map (base+·)) st.t S.slots,IH (rQ st.h fun i=>(jE i ids 0).map (base+·)) st.h S.objs ids with
  |some a,some b=>some (a,b)
  |_,_=>none
def Ec (S:zE)(st:St):Option S.den:=Nz (pre+500000) (pre+fD) 400 S st
def yq:(l:List zE)→St→Option (o9 l)
 |[],_=>none
 |[S],st=>Ec pre S st
 |S::T::l,st=>match Ec pre S st with
  |some d=>some (.inl d)
  |none=>match yq (T::l) st with
   |some d=>some (.inr d)
   |none=>none
def II (base:Nat):(l:List zE)→o9 l→(St→Option R)→Option R
 |[],_,_=>none
 |[S],d,K=>K (zL base S d)
 |S::T::l,d,K=>match d with
  |.inl d=>K (zL base S d)
  |.inr d=>II base (T::l) d K
def Ed:(l:List (Ex×zE))→Ex→St→Option (rM l)
 |[],_,_=>none
 |[p],e,st=>bif Nu p.1 e then Ec pre p.2 st else none
 |p::q::l,e,st=>match(bif Nu p.1 e then Ec pre p.2 st else none) with
  |some d=>some (.inl d)
  |none=>match Ed (q::l) e st with
   |some d=>some (.inr d)
   |none=>none
def yr (base:Nat):(l:List (Ex×zE))→rM l→(Ex→St→Option R)→Option R
 |[],_,_=>none
 |[p],d,K=>K p.1 (zL base p.2 d)
 |p::q::l,d,K=>match d with
  |.inl d=>K p.1 (zL base p.2 d)
  |.inr d=>yr base (q::l) d K
def Yj ins outs {X:Type}(kj:rM outs→X)(again:o9 ins→Option X):Ex→St→Option X
 |.normal,st=>match yq pre ins st with
  |some d=>again d
  |none=>none
 |e,st=>match Ed pre outs e st with
  |some o=>some (kj o)
  |none=>none
def uq:Code→Option Nat
 |.region id _ _=>some id
 |.seq a b=>match uq a with|some i=>some i|none=>uq b
 |.cond _ a b=>match uq a with|some i=>some i|none=>uq b
 |.block _ b|.loop b|.scope b=>uq b
 |_=>none
def rR (b:Code):Option zX:=match uq b with
 |some i=>A.loops.lookup i
 |none=>none
def vN8 (b:Code):Nat:=match uq b with
 |some i=>(A.unr.lookup i).getD 0
 |none=>0
def NA (b:St→(Ex→St→Option R)→Option R):Nat→St→(Ex→St→Option R)→Option R
 |0,_,_=>none
 |n+1,st,K=>b st fun e st=>match e with
  |.normal=>NA b n st K
  |e=>K e st
def IJ (c:Operand)(b:Bool)(st:St):St:=match A.wise,c with
 |true,.tmp s=>{st with t:=wM st.t s (.c (.bool b))}
 |_,_=>st
def gZ:Code→St→(Ex→St→Option R)→Option R
 |.skip,st,K=>K .normal st
 |.region _ ops draw,st,K=>bif draw
   then bif !Eb ops then none else yo E A k pre na nt ops (Region.before ops) (ops.toList.zipIdx.map fun p=>(p.2,p.1)) [] st (K .normal)
   else IE E A k pre na nt ops (ops.toList.zipIdx.map fun p=>(p.2,p.1)) st (K .normal)
 |.seq a b,st,K=>gZ a st fun e st=>match e with
  |.normal=>gZ b st K
  |e=>K e st
 |.cond c a b,st,K=>match st.ev c with
  |.c (.bool t)=>bif t then gZ a (IJ A c true st) K else gZ b (IJ A c false st) K
  |_=>none
 |.block id b,st,K=>gZ b st fun e st=>match e with
  |.exit i=>bif Nat.beq i id then K .normal st else K (.exit i) st
  |e=>K e st
 |.loop b,st,K=>match rR A b with
  |none=>NA (gZ b) (vN8 A b) st K
  |some L=>match yq pre L.ins st with
   |none=>none
   |some d=>(L.sum k d).bind fun x=>L.elim (pre+fD) x R K
 |.exit id,st,K=>K (.exit id) st
 |.ret,st,K=>K .ret st
 |_,_,_=>none
def rS (st:St):ResultVar→Option zW
 |.tmp t=>some (st.t t)
 |.cell a t=>match st.t a with
  |.c (.ptr id off)=>match st.h id with
   |some (.box _ cells)=>match kh cells off (E.P.cellsOf t) with
    |some vs=>nz (wU E.P t) vs
    |none=>none
   |_=>none
  |_=>none
def yt:zW→Option (Bool×List zT)
 |.c v=>some (false,[v])
 |.agg vs=>some (true,vs)
 |_=>none
def IK (fn:Func)(st:St):Option zW:=match fn.results.toList with
 |[]=>some (.tup [])
 |[r]=>rS E st r
 |rs=>match rs.mapM (fun r=>(rS E st r).bind yt) with
  |some xs=>some (.tup xs)
  |none=>none
def IL (args:List zW):Nat→zW:=fun n=>args.getD n .skp
def iY (fn:Func)(args:List zW)(h:Hp)(K:zW→St→Option R):Option R:=match fn.body with
 |none=>none
 |some code=>bif Nat.ble args.length fn.ntmps then gZ E A k pre na fn.ntmps code {t:=IL args,h:=h} fun e st=>match e with
  |.exit _=>none
  |_=>match IK E fn st with
   |some v=>K v st
   |none=>none
  else none
end
def _root_.Go.Value.one1:Value→Bool
 |.agg _|.tuple _=>false
 |_=>true
def yH (H:Array Go.Obj)(B o:Nat):Option Value:=match H[B]? with
 |some (.cells c _ _)=>c[o]?
 |_=>none
def qP (H:Array Go.Obj)(B:Nat):Nat:=match H[B]? with
 |some (.cells c _ _)=>c.size
 |_=>0
theorem pf (w:World) B o:w.cell? ⟨B,o,none⟩=yH w.heap B o:=by
 rfl
theorem NB {H H' B}(h:H'[B]? =H[B]?) o:yH H' B o=yH H B o:=by unfold yH;rw[h]
theorem yu {H H' B}(h:H'[B]? =H[B]?):qP H' B=qP H B:=by unfold qP;rw[h]
def qB (H:Array Go.Obj)(F:Nat→Prop):(t:Ty)→t.den→(Nat→Option Value)→Prop
 |.int k,n,rd=>rd 0=some (.int k n)
 |.bool,b,rd=>rd 0=some (.bool b)
 |.sl t,xs,rd=>∃A n c,rd 0=some (.slice A n c)∧n=xs.length∧n≤c∧
   ((xs=[]∧(A=none→c=0))∨∃B o,A=some ⟨B,o,none⟩∧F B∧∀i (h:i<xs.length),qB H F t xs[i] (fun j=>yH H B (o+i*t.size+j)))
 |.pair a b,p,rd=>qB H F a p.1 rd∧qB H F b p.2 (fun j=>rd (j+a.size))
theorem yR {H H' F F'}(hF:∀b,F b→F' b)(hs:∀b,F b→H'[b]? =H[b]?):
  ∀t x rd eL,(∀j,j<t.size→eL j=rd j)→qB H F t x rd→qB H' F' t x eL
 |.int k,n,rd,eL,hr,h
 |.bool,n,rd,eL,hr,h=>by simp[qB] at h⊢;rw[hr 0 (by simp[Ty.size])];exact h
 |.sl t,xs,rd,eL,hr,h=>by
  obtain⟨A,n,c,h1,h2,h3,h4⟩:=h;refine⟨A,n,c,by rw[hr 0 (by simp[Ty.size])];exact h1,h2,h3,?_⟩;rcases h4 with h4|⟨B,o,e,hB,h4⟩
  ·simp_all
  ·exact .inr ⟨B,o,e,hF B hB,fun i hi=>yR hF hs t _ _ _ (fun j _=>NB (hs B hB) _) (h4 i hi)⟩
 |.pair a b,p,rd,eL,hr,h=>by
  exact⟨yR hF hs a _ _ _ (fun j hj=>hr j (by simp[Ty.size];omega)) h.1,
   yR hF hs b _ _ _ (fun j hj=>hr _ (by simp[Ty.size];omega)) h.2⟩
theorem Ty.size_pos:∀t:Ty,0<t.size
 |.int _|.bool|.sl _=>by simp[Ty.size]
 |.pair a b=>by have:=Ty.size_pos a;simp[Ty.size];omega
structure zZ where
 blk:Option Nat
 len:Nat
 sz:Nat
 ver:Nat
 rows:List (Option Nat×Nat)
def zZ.fp (C:zZ):List Nat:=C.blk.toList++C.rows.filterMap (·.1)
structure zZ.le (C C':zZ):Prop where
 blk:C'.blk=C.blk
 len:C'.len=C.len
 sz:C'.sz=C.sz
 ver:C.ver≤C'.ver
 rows:C'.ver=C.ver→C'.rows=C.rows
theorem zZ.le_refl (C:zZ):C.le C:=⟨rfl,rfl,rfl,by simp,by simp⟩
theorem zZ.le_trans {A B C:zZ}(h:A.le B)(k:B.le C):A.le C:=
 ⟨k.blk.trans h.blk,k.len.trans h.len,k.sz.trans h.sz,Nat.le_trans h.ver k.ver,fun e=>by
  have:=h.ver;have:=k.ver;rw[k.rows (by omega),h.rows (by omega)]⟩
structure zI where
 κ:Nat→Option zZ
 F:Nat→Prop
 G:Nat→Prop
 h:Hp
 H:Array Go.Obj
def zK {α β:Type}(R:α→β→Prop):List α→List β→Prop
 |[],[]=>True
 |a::l,b::m=>R a b∧zK R l m
 |_,_=>False
theorem zK.mono {α β R S}(h:∀a b,R a b→S a b):∀{l:List α} {m:List β},zK R l m→zK S l m
 |[],[],_=>trivial
 |_::_,_::_,hh=>⟨h _ _ hh.1,zK.mono h hh.2⟩
theorem zK.length {α β R}:∀{l:List α} {m:List β},zK R l m→l.length=m.length
 |[],[],_=>rfl
 |_::_,_::_,hh=>by simp[zK.length hh.2]
theorem zK.get {α β R}:∀{l:List α} {m:List β},zK R l m→∀i h (h':i<m.length),R l[i] m[i]
 |_::_,_::_,hh,0,_,_=>hh.1
 |_::_,_::_,hh,i+1,h,h'=>zK.get hh.2 i (by simp_all) (by simp_all)
theorem zK.of_get {α β R}:∀{l:List α} {m:List β},l.length=m.length→(∀i h (h':i<m.length),R l[i] m[i])→zK R l m
 |[],[],_,_=>trivial
 |a::l,b::m,hl,h=>⟨h 0 (by simp) (by simp),zK.of_get (by simp_all) fun i h1 h2=>h (i+1) (by simp_all) (by simp_all)⟩
theorem zK.append {α β R}:∀{l l':List α} {m m':List β},zK R l m→zK R l' m'→zK R (l++l') (m++m')
 |[],_,[],_,_,k=>k
 |_::_,_,_::_,_,h,k=>⟨h.1,zK.append h.2 k⟩
theorem zK.drop {α β R}:∀n {l:List α} {m:List β},zK R l m→zK R (l.drop n) (m.drop n)
 |0,_,_,h=>h
 |n+1,[],[],_=>trivial
 |n+1,_::_,_::_,h=>zK.drop n h.2
theorem zK.take {α β R}:∀n {l:List α} {m:List β},zK R l m→zK R (l.take n) (m.take n)
 |0,_,_,_=>by simp[zK]
 |n+1,[],[],_=>trivial
 |n+1,_::_,_::_,h=>⟨h.1,zK.take n h.2⟩
theorem zK.set {α β R}{a:α}{b:β}(yv:R a b):∀n {l m},zK R l m→zK R (l.set n a) (m.set n b)
 |_,[],[],_=>trivial
 |0,_::_,_::_,h=>⟨yv,h.2⟩
 |n+1,_::_,_::_,h=>⟨h.1,zK.set yv n h.2⟩
def wG (H:Array Go.Obj)(C:zZ)(lo n:Nat)(v:Value):Prop:=∃A c,v=.slice A n c∧match C.blk with
 |none=>A=none∧n=0∧c=0
 |some B=>n≤c∧∃a,A=some ⟨B,a,none⟩∧(c=0∨a=lo*C.sz)∧(lo+c)*C.sz≤qP H B
def kk (H:Array Go.Obj)(rb:Option Nat)(n:Nat)(v:Value):Prop:=match rb with
 |none=>v=.slice none 0 0∧n=0
 |some B=>∃a c,v=.slice (some ⟨B,a,none⟩) n c∧n≤c∧(c=0∨a=0)∧c≤qP H B
def NC (C:zZ)(lo:Nat)(v:Value):Prop:=∃A n c,v=.slice A n c∧C.len≤lo+c
def zQ (M:zI):zT→Value→Prop
 |.undef,v=>v.one1=true
 |.int k n,v=>v=.int k n
 |.bool b,v=>v=.bool b
 |.fsl sh t xs,v=>qB M.H (bif sh then M.G else M.F) (.sl t) xs (fun _=>some v)
 |.nsl,v=>v=.slice none 0 0
 |.nfl sh t xs,v=>(∃a n c,v=.slice (some a) n c)∧qB M.H (bif sh then M.G else M.F) (.sl t) xs (fun _=>some v)
 |.osl id r,v=>∃C,M.κ id=some C∧match r with
  |none=>wG M.H C 0 C.len v
  |some (lo,n)=>lo+n≤C.len∧wG M.H C lo n v∧NC C lo v
 |.bsl id off n,v=>∃C B,M.κ id=some C∧C.blk=some B∧v=.slice (some ⟨B,off,none⟩) n n
 |.ptr id off,v=>∃C B,M.κ id=some C∧C.blk=some B∧v=.pointer (some ⟨B,off,none⟩)
 |.eptr id i off,v=>∃C B,M.κ id=some C∧C.blk=some B∧i<C.len∧v=.pointer (some ⟨B,i*C.sz+off,none⟩)
 |.fptr sh t x off,v=>∃B o,v=.pointer (some ⟨B,o+off,none⟩)∧(bif sh then M.G else M.F) B∧qB M.H (bif sh then M.G else M.F) t x (fun j=>yH M.H B (o+j))
 |.mrow id i ver,v=>∃C,M.κ id=some C∧v.one1=true∧ver≤C.ver∧(C.ver=ver→∃rb rl,C.rows[i]? =some (rb,rl)∧kk M.H rb rl v)
 |.mptr id i,v=>∃C B,M.κ id=some C∧C.blk=some B∧i<C.len∧v=.pointer (some ⟨B,i,none⟩)
 |.meptr id i j ver,v=>∃C,M.κ id=some C∧v.one1=true∧ver≤C.ver∧(C.ver=ver→∃B rl,C.rows[i]? =some (some B,rl)∧j<rl∧v=.pointer (some ⟨B,j,none⟩))
 |.nilp,v=>v=.pointer none
 |.nilf,v=>v=.nilFunc
 |.nilm,v=>v=.map none
 |.fn f cap,v=>∃cv,v=.func (.func f) #[] cv∧zK (fun id u=>∃C B,M.κ id=some C∧C.blk=some B∧u=.pointer (some ⟨B,0,none⟩)) cap cv.toList
 |.map id,v=>∃C B,M.κ id=some C∧C.blk=some B∧v=.map (some B)
 |.str xs,v=>v=.string ⟨(lK xs).toArray⟩
theorem wG.one {H C lo n v}(h:wG H C lo n v):v.one1=true:=by
 obtain⟨A,c,rfl,_⟩:=h;rfl
theorem zQ.one {M c v}(h:zQ M c v):v.one1=true:=by
 cases c with
 |undef=>exact h
 |fsl sh t xs=>obtain⟨A,n,c,e,_⟩:=h;simp at e;rw[e];rfl
 |nfl sh t xs=>obtain⟨⟨a,n,c,e⟩,_⟩:=h;rw[e];rfl
 |osl id r=>
  obtain⟨C,_,h⟩:=h;cases r with
  |none=>exact wG.one h
  |some p=>exact wG.one h.2.1
 |bsl id off n=>obtain⟨C,B,_,_,rfl⟩:=h;rfl
 |ptr id off=>obtain⟨C,B,_,_,rfl⟩:=h;rfl
 |eptr id i off=>obtain⟨C,B,_,_,_,rfl⟩:=h;rfl
 |fptr sh t x off=>obtain⟨B,o,rfl,_⟩:=h;rfl
 |mrow id i ver=>obtain⟨C,_,h,_⟩:=h;exact h
 |mptr id i=>obtain⟨C,B,_,_,_,rfl⟩:=h;rfl
 |meptr id i j ver=>obtain⟨C,_,h,_⟩:=h;exact h
 |fn f cap=>obtain⟨cv,rfl,_⟩:=h;rfl
 |map id=>obtain⟨C,B,_,_,rfl⟩:=h;rfl
 |_=>rw[show v=_ from h];rfl
def rT (M:zI)(x:Bool×List zT)(v:Value):Prop:=match x with
 |(false,[c])=>zQ M c v
 |(true,cs)=>∃vs,v=.agg vs∧zK (zQ M) cs vs.toList
 |_=>False
def zP (M:zI):zW→Value→Prop
 |.undef,_=>True
 |.skp,v=>v=undef
 |.c x,v=>zQ M x v
 |.agg cs,v=>∃vs,v=.agg vs∧zK (zQ M) cs vs.toList
 |.tup xs,v=>∃vs,v=.tuple vs∧zK (rT M) xs vs.toList
def Obj.owned:Obj→Bool
 |.box o _=>o
 |.arr o _ _=>o
 |.robox _=>false
 |.mat _ _=>true
 |.pmat _ _ _=>true
 |.imap _=>true
 |.gone=>false
def jI (n:Int):List MapEntry→Option Value
 |[]=>none
 |e::es=>match e.key with
  |.int .i64 m=>if n=m then some e.val else jI n es
  |_=>jI n es
def yP (M:zI)(o:Obj)(C:zZ):Prop:=match o with
 |.box own cells=>∃B vals e,C.blk=some B∧C.rows=[]∧M.H[B]? =some (.cells vals e (0,0))∧zK (zQ M) cells vals.toList∧(own=false→M.G B)
 |.robox cells=>∃B vals e,C.blk=some B∧C.rows=[]∧M.H[B]? =some (.cells vals e (0,0))∧zK (zQ M) cells vals.toList∧M.F B
 | .arr own t xs => C.len = xs.length ∧ C.sz = t.size ∧ (own = true → C.rows = []) ∧ (match C.blk with
  |none=>xs=[]
  |some B=>∃vals e,M.H[B]? =some (.cells vals e (0,0))∧(own=false→M.G B)∧xs.length*t.size≤vals.size∧
    ∀i (h:i<xs.length),qB M.H M.G t xs[i] (fun j=>vals[i*t.size+j]?))
 | .mat ver xs => C.ver = ver ∧ C.len = xs.length ∧ C.sz = 1 ∧ C.rows.length = xs.length ∧ C.fp.Nodup ∧ (match C.blk with
  |none=>xs=[]
  |some B=>∃vals e,M.H[B]? =some (.cells vals e (0,0))∧xs.length≤vals.size∧
    ∀i (h:i<xs.length),∃rb v,C.rows[i]? =some (rb,xs[i].length)∧vals[i]? =some v∧kk M.H rb xs[i].length v∧
     (∀R,rb=some R→∃rv er,M.H[R]? =some (.cells rv er (0,0))∧∀j (h':j<xs[i].length),rv[j]? =some (.int .i64 xs[i][j])))
 | .pmat ver xs n => C.ver = ver ∧ C.len = n ∧ C.sz = 1 ∧ C.rows.length = xs.length ∧ C.fp.Nodup ∧ xs.length ≤ n ∧ (match C.blk with
  |none=>n=0
  |some B=>∃vals e,M.H[B]? =some (.cells vals e (0,0))∧n≤vals.size∧
    ∀i (h:i<xs.length),∃rb v,C.rows[i]? =some (rb,xs[i].length)∧vals[i]? =some v∧kk M.H rb xs[i].length v∧
     (∀R,rb=some R→∃rv er,M.H[R]? =some (.cells rv er (0,0))∧∀j (h':j<xs[i].length),rv[j]? =some (.int .i64 xs[i][j])))
 |.imap cL=>∃B es ck,C.blk=some B∧C.rows=[]∧M.H[B]? =some (.map es ck)∧(∀e∈es.toList,∃n b,e.key=.int .i64 n∧e.val=.bool b)∧
   ∀n,jI n es.toList=(cL.lookup n).map .bool
 |.gone=>True
def qJ (M:zI)(b:Nat):Prop:=∃id o C,M.h id=some o∧o.owned=true∧M.κ id=some C∧b∈C.fp
structure Ok (M:zI):Prop where
 obj:∀id o,M.h id=some o→∃C,M.κ id=some C∧yP M o C
 non:∀id,M.h id=none→M.κ id=none
 disj:∀i j oi oj Ci Cj b,i≠j→M.h i=some oi→M.h j=some oj→oi.owned=true→oj.owned=true→M.κ i=some Ci→M.κ j=some Cj→b∈Ci.fp→b∈Cj.fp→False
 own:∀b,qJ M b→¬M.F b∧b<M.H.size
 GF:∀b,M.G b→M.F b
 Flt:∀b,M.F b→b<M.H.size
structure yD (M M':zI):Prop where
 κ:∀id C,M.κ id=some C→∃C',M'.κ id=some C'∧C.le C'
 F:∀b,M.F b→M'.F b
 G:∀b,M.G b→M'.G b
 same:∀b,M.F b→M'.H[b]? =M.H[b]?
 sameG:∀b,M.G b→M'.H[b]? =M.H[b]?
 bsz:∀b,b<M.H.size→qP M'.H b=qP M.H b
theorem vLy {H b}(h:¬b<H.size):qP H b=0:=by
 unfold qP;simp_all
theorem Yk {M M'}(x:yD M M') b:qP M.H b≤qP M'.H b:=by
 by_cases h:b<M.H.size
 ·rw[x.bsz b h];omega
 ·rw[vLy h];omega
theorem wG.ext {M M'}(x:yD M M'){C C'}(le:C.le C'){lo n v}(h:wG M.H C lo n v):wG M'.H C' lo n v:=by
 obtain⟨A,c,rfl,h⟩:=h;refine⟨A,c,rfl,?_⟩;rw[le.blk];cases hb:C.blk with
 |none=>simp_all
 |some B=>
  rw[hb] at h;obtain⟨h0,a,h1,h2,h3⟩:=h;exact⟨h0,a,h1,by rw[le.sz];exact h2,by rw[le.sz];exact Nat.le_trans h3 (Yk x B)⟩
theorem kk.ext {M M'}(x:yD M M'){rb n v}(h:kk M.H rb n v):kk M'.H rb n v:=by
 cases rb with
 |none=>exact h
 |some B=>
  obtain⟨a,c,h1,h2,h3,h4⟩:=h;exact⟨a,c,h1,h2,h3,Nat.le_trans h4 (Yk x B)⟩
theorem zQ.ext {M M'}(x:yD M M'){c v}(h:zQ M c v):zQ M' c v:=by
 cases c with
 |fsl sh t xs=>
  cases sh with
  |true=>exact yR x.G x.sameG _ _ _ _ (fun _ _=>rfl) h
  |false=>exact yR x.F x.same _ _ _ _ (fun _ _=>rfl) h
 |nfl sh t xs=>
  cases sh with
  |true=>exact⟨h.1,yR x.G x.sameG _ _ _ _ (by simp) h.2⟩
  |false=>exact⟨h.1,yR x.F x.same _ _ _ _ (by simp) h.2⟩
 |osl id r=>
  obtain⟨C,hC,h⟩:=h;obtain⟨C',aw,le⟩:=x.κ id C hC;refine⟨C',aw,?_⟩;cases r with
  |none=>rw[le.len];exact wG.ext x le h
  |some p=>exact⟨by rw[le.len];omega,wG.ext x le h.2.1,by unfold NC;rw[le.len];exact h.2.2⟩
 |bsl id off n=>
  obtain⟨C,B,hC,hB,h⟩:=h;obtain⟨C',aw,le⟩:=x.κ id C hC;exact⟨C',B,aw,le.blk.trans hB,h⟩
 |ptr id off=>
  obtain⟨C,B,hC,hB,h⟩:=h;obtain⟨C',aw,le⟩:=x.κ id C hC;exact⟨C',B,aw,le.blk.trans hB,h⟩
 |eptr id i off=>
  obtain⟨C,B,hC,hB,hi,h⟩:=h;obtain⟨C',aw,le⟩:=x.κ id C hC;exact⟨C',B,aw,le.blk.trans hB,by rw[le.len];exact hi,by rw[le.sz];exact h⟩
 |fptr sh t y off=>
  obtain⟨B,o,h1,h2,h3⟩:=h;cases sh with
  |true=>exact⟨B,o,h1,x.G B h2,yR x.G x.sameG _ _ _ _ (fun j _=>NB (x.sameG B h2) _) h3⟩
  |false=>exact⟨B,o,h1,x.F B h2,yR x.F x.same _ _ _ _ (fun j _=>NB (x.same B h2) _) h3⟩
 |mrow id i ver=>
  obtain⟨C,hC,h1,hle,h⟩:=h;obtain⟨C',aw,le⟩:=x.κ id C hC;have:=le.ver;refine⟨C',aw,h1,by omega,fun e=>?_⟩;obtain⟨rb,rl,h2,h3⟩:=h (by omega);exact⟨rb,rl,by rw[le.rows (by omega)];exact h2,kk.ext x h3⟩
 |mptr id i=>
  obtain⟨C,B,hC,hB,hi,h⟩:=h;obtain⟨C',aw,le⟩:=x.κ id C hC;exact⟨C',B,aw,le.blk.trans hB,by rw[le.len];exact hi,h⟩
 |meptr id i j ver=>
  obtain⟨C,hC,h1,hle,h⟩:=h;obtain⟨C',aw,le⟩:=x.κ id C hC;have:=le.ver;refine⟨C',aw,h1,by omega,fun e=>?_⟩;obtain⟨B,rl,h2,h3⟩:=h (by omega);exact⟨B,rl,by rw[le.rows (by omega)];exact h2,h3⟩
 |fn f cap=>
  obtain⟨cv,h1,h2⟩:=h;refine⟨cv,h1,h2.mono fun id u ⟨C,B,hC,hB,hu⟩=>?_⟩;obtain⟨C',aw,le⟩:=x.κ id C hC;exact⟨C',B,aw,le.blk.trans hB,hu⟩
 |map id=>
  obtain⟨C,B,hC,hB,h⟩:=h;obtain⟨C',aw,le⟩:=x.κ id C hC;exact⟨C',B,aw,le.blk.trans hB,h⟩
 |_=>exact h
theorem rT.ext {M M'}(x:yD M M'){p v}(h:rT M p v):rT M' p v:=by
 obtain⟨b,cs⟩:=p;cases b with
 |true=>
  obtain⟨vs,h1,h2⟩:=h;exact⟨vs,h1,h2.mono fun _ _ hc=>hc.ext x⟩
 |false=>
  cases cs with
  |nil=>exact h
  |cons c cs=>cases cs with
   |nil=>exact zQ.ext (c:=c) x h
   |cons _ _=>exact h
theorem zP.ext {M M'}(x:yD M M'){a v}(h:zP M a v):zP M' a v:=by
 cases a with
 |undef=>trivial
 |skp=>exact h
 |c c=>exact zQ.ext (c:=c) x h
 |agg cs=>
  obtain⟨vs,h1,h2⟩:=h;exact⟨vs,h1,h2.mono fun _ _ hc=>hc.ext x⟩
 |tup xs=>
  obtain⟨vs,h1,h2⟩:=h;exact⟨vs,h1,h2.mono fun _ _ hc=>hc.ext x⟩
theorem yP.ext {M M'}(x:yD M M'){o C}(hb:o.owned=true→∀b∈C.fp,M'.H[b]? =M.H[b]?)(h:yP M o C):yP M' o C:=by
 cases o with
 |box own cells=>
  obtain⟨B,vals,e,h1,h2,h3,h4,h5⟩:=h;have hs:M'.H[B]? =M.H[B]? :=by
   cases own with
   |true=>exact hb rfl B (by simp[zZ.fp,h1])
   |false=>exact x.sameG B (h5 rfl)
  exact⟨B,vals,e,h1,h2,by simp_all,h4.mono fun _ _ hc=>hc.ext x,fun h=>x.G B (h5 h)⟩
 |robox cells=>
  obtain⟨B,vals,e,h1,h2,h3,h4,h5⟩:=h;exact⟨B,vals,e,h1,h2,by rw[x.same B h5];exact h3,h4.mono fun _ _ hc=>hc.ext x,x.F B h5⟩
 |arr own t xs=>
  obtain⟨h1,h2,h3,h4⟩:=h;refine⟨h1,h2,h3,?_⟩;cases hB:C.blk with
  |none=>simp_all
  |some B=>
   rw[hB] at h4;obtain⟨vals,e,h5,h6,h7,h8⟩:=h4;have hs:M'.H[B]? =M.H[B]? :=by
    cases own with
    |true=>exact hb rfl B (by simp[zZ.fp,hB])
    |false=>exact x.sameG B (h6 rfl)
   exact⟨vals,e,by simp_all,fun h=>x.G B (h6 h),h7,fun i hi=>yR x.G x.sameG _ _ _ _ (by simp) (h8 i hi)⟩
 |mat ver xs=>
  obtain⟨h1,h2,h3,h4,h5,h6⟩:=h;refine⟨h1,h2,h3,h4,h5,?_⟩;cases hB:C.blk with
  |none=>rw[hB] at h6;exact h6
  |some B=>
   rw[hB] at h6;obtain⟨vals,e,h7,h8,h9⟩:=h6;refine⟨vals,e,by rw[hb rfl B (by simp[zZ.fp,hB])];exact h7,h8,fun i hi=>?_⟩;obtain⟨rb,v,k1,k2,k3,k4⟩:=h9 i hi;refine⟨rb,v,k1,k2,k3.ext x,fun R hR=>?_⟩;obtain⟨rv,er,k5,k6⟩:=k4 R hR;refine⟨rv,er,?_,k6⟩;rw[hb rfl R ?_]
   ·exact k5
   ·simp[zZ.fp];exact by grind
 |pmat ver xs n=>
  obtain⟨h1,h2,h3,h4,h5,h0,h6⟩:=h;refine⟨h1,h2,h3,h4,h5,h0,?_⟩;cases hB:C.blk with
  |none=>simp_all
  |some B=>
   rw[hB] at h6;obtain⟨vals,e,h7,h8,h9⟩:=h6;refine⟨vals,e,by rw[hb rfl B (by simp[zZ.fp,hB])];exact h7,h8,fun i hi=>?_⟩;obtain⟨rb,v,k1,k2,k3,k4⟩:=h9 i hi;refine⟨rb,v,k1,k2,k3.ext x,fun R hR=>?_⟩;obtain⟨rv,er,k5,k6⟩:=k4 R hR;refine⟨rv,er,?_,k6⟩;rw[hb rfl R ?_]
   ·exact k5
   ·simp only[zZ.fp];grind
 |imap cL=>
  obtain⟨B,es,ck,h1,h2,h3,h4,h5⟩:=h;exact⟨B,es,ck,h1,h2,by rw[hb rfl B (by simp[zZ.fp,h1])];exact h3,h4,h5⟩
 |gone=>trivial
structure yS (M M':zI):Prop where
 ext:yD M M'
 size:M.H.size≤M'.H.size
 frame:∀b,b<M.H.size→¬qJ M b→M'.H[b]? =M.H[b]?
 own:∀b,qJ M' b→b<M.H.size→qJ M b
 Gb:∀b,M'.G b→b<M.H.size→M.G b∨qJ M b
 Fb:∀b,M'.F b→b<M.H.size→M.F b∨qJ M b
theorem yD.refl M:yD M M:=⟨fun _ C h=>⟨C,h,C.le_refl⟩,by simp,by simp,by simp,by simp,by simp⟩
theorem yS.refl M:yS M M:=⟨yD.refl M,by simp,by simp,by grind,by grind,by grind⟩
theorem yD.trans {M M' kl}(hs:M.H.size≤M'.H.size)(x:yD M M')(y:yD M' kl):yD M kl where
 κ id C h:=by
  obtain⟨C',h',le⟩:=x.κ id C h;obtain⟨C'',h'',le'⟩:=y.κ id C' h';exact⟨C'',h'',zZ.le_trans le le'⟩
 F b h:=y.F b (x.F b h)
 G b h:=y.G b (x.G b h)
 same b h:=(y.same b (x.F b h)).trans (x.same b h)
 sameG b h:=(y.sameG b (x.G b h)).trans (x.sameG b h)
 bsz b h:=(y.bsz b (by omega)).trans (x.bsz b h)
theorem yS.trans {M M' kl}(x:yS M M')(y:yS M' kl):yS M kl where
 ext:=x.ext.trans x.size y.ext
 size:=Nat.le_trans x.size y.size
 frame b h hn:=by
  have:=x.size;rw[y.frame b (by omega) fun ho=>hn (x.own b ho h),x.frame b h hn]
 own b ho h:=x.own b (y.own b ho (by have:=x.size;omega)) h
 Gb b hg h:=by
  rcases y.Gb b hg (by have:=x.size;omega) with k|k
  ·exact x.Gb b k h
  ·exact .inr (x.own b k h)
 Fb b hg h:=by
  rcases y.Fb b hg (by have:=x.size;omega) with k|k
  ·exact x.Fb b k h
  ·exact .inr (x.own b k h)
theorem Ok.build {M M'}(ok:Ok M)(x:yD M M')(T:Nat→Prop)
  (hh:∀id,¬T id→M'.h id=M.h id) (hκ:∀id,¬T id→M'.κ id=M.κ id)
  (keep:∀id o C,¬T id→M.h id=some o→o.owned=true→M.κ id=some C→∀b∈C.fp,M'.H[b]? =M.H[b]?)
  (Yl:∀id o C,¬T id→M.h id=some o→o.owned=true→M.κ id=some C→∀b∈C.fp,¬M'.F b)
  (size:M.H.size≤M'.H.size)
  (obj:∀id o,T id→M'.h id=some o→∃C,M'.κ id=some C∧yP M' o C)
  (non:∀id,T id→M'.h id=none→M'.κ id=none)
  (disj:∀id o C b,T id→M'.h id=some o→o.owned=true→M'.κ id=some C→b∈C.fp→
   (∀j oj Cj,j≠id→M'.h j=some oj→oj.owned=true→M'.κ j=some Cj→b∉Cj.fp)∧¬M'.F b∧b<M'.H.size)
  (GF:∀b,M'.G b→M'.F b) (Flt:∀b,M'.F b→b<M'.H.size):Ok M' where
 obj id o h:=by
  by_cases hT:T id
  ·exact obj id o hT h
  ·rw[hh id hT] at h;obtain⟨C,hC,hO⟩:=ok.obj id o h;exact⟨C,by rw[hκ id hT];exact hC,hO.ext x fun ho=>keep id o C hT h ho hC⟩
 non id h:=by
  by_cases hT:T id
  ·exact non id hT h
  ·rw[hκ id hT];exact ok.non id (by rw[←hh id hT];exact h)
 disj i j oi oj Ci Cj b iZ hi hj hoi hoj Ym dO Ee hbj:=by
  by_cases Yn:T i
  ·grind
  ·by_cases Yo:T j
   ·grind
   ·rw[hh i Yn] at hi;rw[hh j Yo] at hj;rw[hκ i Yn] at Ym;rw[hκ j Yo] at dO;exact ok.disj i j oi oj Ci Cj b iZ hi hj hoi hoj Ym dO Ee hbj
 own b hb:=by
  obtain⟨id,o,C,h,ho,hC,hb⟩:=hb;by_cases hT:T id
  ·exact(disj id o C b hT h ho hC hb).2
  ·rw[hh id hT] at h;rw[hκ id hT] at hC;have:=ok.own b ⟨id,o,C,h,ho,hC,hb⟩;grind
 GF:=GF
 Flt:=Flt
def κset (κ:Nat→Option zZ)(id:Nat)(C:zZ):Nat→Option zZ:=fun n=>if n=id then some C else κ n
theorem κset_same κ id C:κset κ id C id=some C:=by simp[κset]
theorem κset_ne κ {id n} C (h:n≠id):κset κ id C n=κ n:=by simp[κset,h]
theorem yG h id o:qW h id o id=some o:=by simp[qW]
theorem yI h {id n} o (hn:n≠id):qW h id o n=h n:=by
 have:Nat.beq n id=false:=by
  cases hb:Nat.beq n id with
  |true=>simp_all
  |false=>rfl
 simp[qW,this]
theorem my {H:Array Go.Obj}{o b}(h:b<H.size):(H.push o)[b]? =H[b]? :=by
 grind
theorem ur {H:Array Go.Obj}{o}:(H.push o)[H.size]? =some o:=by simp
def zI.new (M:zI)(id:Nat)(o:Obj)(C:zZ)(ob:Go.Obj):zI:={M with κ:=κset M.κ id C,h:=qW M.h id o,H:=M.H.push ob}
theorem zI.new_ext {M}(ok:Ok M){id}(ah:M.h id=none) o C ob:yD M (M.new id o C ob) where
 κ n D h:=by
  have:n≠id:=fun e=>by rw[e,ok.non id ah] at h;cases h
  exact⟨D,by simp[zI.new];rw[κset_ne _ _ this];exact h,D.le_refl⟩
 F _ h:=h
 G _ h:=h
 same b h:=my (ok.Flt b h)
 sameG b h:=my (ok.Flt b (ok.GF b h))
 bsz b h:=yu (my h)
theorem zI.new_ok {M}(ok:Ok M){id}(ah:M.h id=none) o C ob (hC:∀b∈C.fp,b=M.H.size)
  (hO:yP (M.new id o C ob) o C):Ok (M.new id o C ob)∧yS M (M.new id o C ob):=by
 have x:=zI.new_ext ok ah o C ob;have dA:(M.new id o C ob).H.size=M.H.size+1:=by simp[zI.new]
 have pg:∀b,qJ (M.new id o C ob) b→b=M.H.size∨qJ M b:=by
  rintro b ⟨n,q,D,h1,h2,h3,h4⟩
  by_cases e:n=id
  ·subst e;simp[zI.new,κset_same] at h1 h3;grind
  ·simp[zI.new] at h1 h3;rw[yI _ _ e] at h1;rw[κset_ne _ _ e] at h3;exact .inr ⟨n,q,D,h1,h2,h3,h4⟩
 refine⟨ok.build x (· =id) (fun n hn=>yI _ _ hn) (fun n hn=>κset_ne _ _ hn) ?_ ?_ (by omega) ?_ ?_ ?_ ok.GF ?_,x,by omega,?_,?_,?_,?_⟩
 ·intro n q D hn h1 h2 h3 b hb;exact my (ok.own b ⟨n,q,D,h1,h2,h3,hb⟩).2
 ·intro n q D hn h1 h2 h3 b hb;exact(ok.own b ⟨n,q,D,h1,h2,h3,hb⟩).1
 ·rintro n q rfl h1
  simp[zI.new,yG] at h1;subst h1;exact⟨C,κset_same _ _ _,hO⟩
 ·rintro n rfl h1
  simp only[zI.new,yG] at h1;cases h1
 ·rintro n q D b rfl h1 h2 h3 hb
  simp[zI.new,κset_same] at h3;subst h3;have eb:=hC b hb;refine⟨fun j oj Cj hj k1 k2 k3 k4=>?_,fun hF=>?_,by omega⟩
  ·simp[zI.new] at k1 k3;rw[yI _ _ hj] at k1;rw[κset_ne _ _ hj] at k3;have:=(ok.own b ⟨j,oj,Cj,k1,k2,k3,k4⟩).2;omega
  ·have:=ok.Flt b hF;omega
 ·intro b hb;have:=ok.Flt b hb;omega
 ·intro b hb _;exact my hb
 ·grind
 ·exact fun b h _=>.inl h
 ·exact fun b h _=>.inl h
def zI.write (M:zI)(id:Nat)(o:Obj)(C:zZ)(H:Array Go.Obj):zI:={M with κ:=κset M.κ id C,h:=qW M.h id o,H:=H}
theorem zI.write_ext {M}(ok:Ok M){id o C C' H'}(ah:M.h id=some o)(aJ:o.owned=true)(hC:M.κ id=some C)
    (hle:C.le C') (hH:∀b,b∉C.fp→H'[b]? =M.H[b]?) (cC:∀b,b<M.H.size→qP H' b=qP M.H b) o':yD M (M.write id o' C' H'):=
  have rU:∀b,M.F b→b∉C.fp:=fun b hF hb=>(ok.own b ⟨id,o,C,ah,aJ,hC,hb⟩).1 hF
  { κ:=fun n D h=>by
      by_cases e:n=id
      · subst e;rw[hC] at h;cases h;exact⟨C',κset_same _ _ _,hle⟩
      · exact⟨D,by simp[zI.write];rw[κset_ne _ _ e];exact h,D.le_refl⟩
    F:=fun _ h=>h
    G:=fun _ h=>h
    same:=fun b h=>hH b (rU b h)
    sameG:=fun b h=>hH b (rU b (ok.GF b h))
    bsz:=cC}
theorem zI.write_ok {M}(ok:Ok M){id o o' C C' H'}(ah:M.h id=some o)(aJ:o.owned=true)(hC:M.κ id=some C)
  (hle:C.le C') (nE:∀b∈C'.fp,b∈C.fp) (dA:H'.size=M.H.size) (hH:∀b,b∉C.fp→H'[b]? =M.H[b]?) (cC:∀b,b<M.H.size→qP H' b=qP M.H b)
  (hO:yP (M.write id o' C' H') o' C'):Ok (M.write id o' C' H')∧yS M (M.write id o' C' H'):=by
 have x:=zI.write_ext ok ah aJ hC hle hH cC o';have pg:∀b,qJ (M.write id o' C' H') b→qJ M b:=by
  rintro b ⟨n,q,D,h1,h2,h3,h4⟩
  by_cases e:n=id
  ·subst e;simp[zI.write,κset_same] at h1 h3;subst h3;exact⟨n,o,C,ah,aJ,hC,nE b h4⟩
  ·simp[zI.write] at h1 h3;rw[yI _ _ e] at h1;rw[κset_ne _ _ e] at h3;exact⟨n,q,D,h1,h2,h3,h4⟩
 refine⟨ok.build x (· =id) (fun n hn=>yI _ _ hn) (fun n hn=>κset_ne _ _ hn) ?_ ?_ (by simp[zI.write];omega) ?_ ?_ ?_ ok.GF ?_,x,by simp[zI.write];omega,?_,?_,?_,?_⟩
 ·intro n q D hn h1 h2 h3 b hb;exact hH b fun hc=>ok.disj n id q o D C b hn h1 ah h2 aJ h3 hC hb hc
 ·intro n q D hn h1 h2 h3 b hb;exact(ok.own b ⟨n,q,D,h1,h2,h3,hb⟩).1
 ·rintro n q rfl h1
  simp[zI.write,yG] at h1;subst h1;exact⟨C',κset_same _ _ _,hO⟩
 ·rintro n rfl h1
  simp only[zI.write,yG] at h1;cases h1
 ·rintro n q D b rfl h1 h2 h3 hb
  simp[zI.write,κset_same] at h3;subst h3;have bD:=nE b hb;have:=ok.own b ⟨n,o,C,ah,aJ,hC,bD⟩;refine⟨fun j oj Cj hj k1 k2 k3 k4=>?_,this.1,by simp[zI.write];omega⟩;simp[zI.write] at k1 k3;rw[yI _ _ hj] at k1;rw[κset_ne _ _ hj] at k3;exact ok.disj j n oj o Cj C b hj k1 ah k2 aJ k3 hC k4 bD
 ·intro b hb;have:=ok.Flt b hb;simp[zI.write];omega
 ·intro b hb hn;exact hH b fun hc=>hn ⟨id,o,C,ah,aJ,hC,hc⟩
 ·simp_all
 ·exact fun b h _=>.inl h
 ·exact fun b h _=>.inl h
def zI.freeze (M:zI)(id:Nat)(o:Obj)(C:zZ):zI:={M with h:=qW M.h id o,F:=fun b=>M.F b∨b∈C.fp,G:=fun b=>M.G b∨b∈C.fp}
theorem zI.freeze_ok {M}(ok:Ok M){id o o' C}(ah:M.h id=some o)(aJ:o.owned=true)(hC:M.κ id=some C)
  (ja:o'.owned=false) (hO:yP (M.freeze id o' C) o' C):Ok (M.freeze id o' C)∧yS M (M.freeze id o' C):=by
 have x:yD M (M.freeze id o' C):=⟨fun _ C h=>⟨C,h,C.le_refl⟩,fun _ h=>.inl h,fun _ h=>.inl h,fun _ _=>rfl,fun _ _=>rfl,fun _ _=>rfl⟩;have Ef:∀b∈C.fp,qJ M b:=fun b hb=>⟨id,o,C,ah,aJ,hC,hb⟩
 have pg:∀b,qJ (M.freeze id o' C) b→qJ M b:=by
  rintro b ⟨n,q,D,h1,h2,h3,h4⟩
  by_cases e:n=id
  ·subst e;simp[zI.freeze,yG] at h1;simp_all
  ·simp[zI.freeze] at h1;rw[yI _ _ e] at h1;exact⟨n,q,D,h1,h2,h3,h4⟩
 refine⟨ok.build x (· =id) (fun n hn=>yI _ _ hn) (fun n _=>rfl) (fun _ _ _ _ _ _ _ _ _=>rfl) ?_ (Nat.le_refl _) ?_ ?_ ?_ ?_ ?_,x,Nat.le_refl _,fun _ _ _=>rfl,by grind,?_,?_⟩
 ·rintro n q D hn h1 h2 h3 b hb (hF|hF)
  ·exact(ok.own b ⟨n,q,D,h1,h2,h3,hb⟩).1 hF
  ·exact ok.disj n id q o D C b hn h1 ah h2 aJ h3 hC hb hF
 ·rintro n q rfl h1
  simp[zI.freeze,yG] at h1;subst h1;exact⟨C,hC,hO⟩
 ·rintro n rfl h1
  simp only[zI.freeze,yG] at h1;cases h1
 ·rintro n q D b rfl h1 h2 h3 hb
  simp[zI.freeze,yG] at h1;simp_all
 ·rintro b (h|h)
  ·exact .inl (ok.GF b h)
  ·exact .inr h
 ·rintro b (h|h)
  ·exact ok.Flt b h
  ·exact(ok.own b (Ef b h)).2
 ·rintro b (h|h) _
  all_goals simp_all
 ·rintro b (h|h) _
  all_goals simp_all
end Go.Ab
set_option linter.unusedSimpArgs false
namespace Go.Ab
def IM:List (Bool×zW×yV)→zW→yV→Prop
 |[],_,_=>False
 |(c,a,b)::l,v,u=>(c=true∧v=a∧u=b)∨(c=false∧IM l v u)
def yE (s:yN)(v:zW)(u:yV):Prop:=match s with
 |.alts l=>IM l v u
 |.call _ x f=>∃r,x=some r∧v=(f r).1∧u=(f r).2
 |.call2 _ _ x f g=>(∃r,x=some (.inl r)∧v=(f r).1∧u=(f r).2)∨(∃r,x=some (.inr r)∧v=(g r).1∧u=(g r).2)
theorem Yp {R K}{out:R}:∀{l},Na K l=some out→∃v u,IM l v u∧K v u=some out
 |(c,a,b)::l,h=>by
  cases c with
  |true=>exact⟨a,b,.inl (by simp),h⟩
  |false=>
   obtain⟨v,u,h1,h2⟩:=Yp (l:=l) h;exact⟨v,u,.inr (by grind),h2⟩
theorem yN.elim_some {R s K}{out:R}(h:s.elim K=some out):∃v u,yE s v u∧K v u=some out:=by
 cases s with
 |alts l=>exact Yp h
 |call X x f=>
  simp[yN.elim,Option.bind_eq_some_iff] at h;obtain⟨r,h1,h2⟩:=h;exact⟨_,_,⟨r,h1,rfl,rfl⟩,h2⟩
 |call2 X Y x f g=>
  simp[yN.elim,Option.bind_eq_some_iff] at h;obtain⟨r,h1,h2⟩:=h;cases r with
  |inl r=>exact⟨_,_,.inl ⟨r,h1,rfl,rfl⟩,h2⟩
  |inr r=>exact⟨_,_,.inr ⟨r,h1,rfl,rfl⟩,h2⟩
theorem vQ {v a u}(h:yE (.one a) v u):v=a∧u=[]:=by
 rcases h with⟨_,h1,h2⟩|⟨h,_⟩
 all_goals simp_all
theorem ko {c v a u}(h:yE (.when c a) v u):c=true∧v=a∧u=[]:=by
 rcases h with h|⟨_,h⟩
 ·exact h
 ·exact h.elim
theorem eY {c v a u b}(h:yE (.alts [(c,a,b)]) v u):c=true∧v=a∧u=b:=by
 rcases h with h|⟨_,h⟩
 ·exact h
 ·exact h.elim
theorem ND {x v u}(h:yE (.ofO x) v u):x=some v∧u=[]:=by
 cases x with
 |none=>exact h.elim
 |some a=>
  obtain⟨rfl,rfl⟩:=vQ h;simp
section
variable {P:Program} (w:World)
theorem IN {t d}(h:P.underlying t=some d):∃i,P.info? t=some i:=by
 unfold Program.underlying at h;grind
theorem NF {t i}(h:P.info? t=some i):P.cellsOf t=i.size:=by simp[Program.cellsOf,h]
theorem yUq {t i}(h:P.info? t=some i):P.bytesOf t=i.bytes:=by simp[Program.bytesOf,h]
theorem lM {t}(h:0<P.cellsOf t):∃i,P.info? t=some i:=by
 cases hi:P.info? t with
 |none=>simp[Program.cellsOf,hi] at h
 |some i=>simp
theorem NG {t i}(h:P.info? t=some i):(typeInfo t).run P w=.ok i w:=by simp[typeInfo,h]
theorem fR {t i}(h:P.info? t=some i):(sizeOf t).run P w=.ok (P.cellsOf t) w:=by
 rw[NF h];simp[sizeOf,typeInfo,h]
theorem ph {t b}(h:wU P t=some b):(∃d,P.underlying t=some d)∧(isAgg t).run P w=.ok b w:=by
 unfold wU at h;cases hd:P.underlying t with
 |none=>simp_all
 |some d=>
  rw[hd] at h;cases d<;>simp at h<;>subst h<;>simp[isAgg,run_underlying hd]
theorem Yq {t cs}(h:zeroCells P t=some cs):∃i v,P.info? t=some i∧i.zero=some v∧v.cells.size=i.size∧v.cells.toList.all uf=true∧cs=v.cells.toList.map ue:=by
 unfold zeroCells at h;split at h
 ·rename_i i hi;split at h
  ·rename_i v hv;cases hb:(Nat.beq v.cells.size i.size&&v.cells.toList.all uf) with
   |false=>grind
   |true=>
    rw[hb] at h;simp_all
  ·cases h
 ·cases h
end
theorem yU1 {v}(h:uf v=true):v.one1=true:=by cases v<;>first|rfl|cases h
theorem uu {v:Value}(h:v.one1=true):v.oneCell'=true:=by cases v<;>first|rfl|cases h
theorem Yr M {v}(h:v.one1=true):zQ M (ue v) v:=by
 unfold ue;split<;>first|rfl|exact h
theorem IP M:∀{l},l.all uf=true→zK (zQ M) (l.map ue) l
 |[],_=>trivial
 |v::l,h=>by
  simp only[List.all_cons,Bool.and_eq_true] at h;exact⟨Yr M (yU1 h.1),IP M h.2⟩
theorem vP3 M v:zP M (Nb v) v:=by
 unfold Nb;split
 ·rename_i cs;cases hb:cs.toList.all uf with
  |false=>trivial
  |true=>exact⟨cs,rfl,IP M hb⟩
 ·trivial
 ·exact Yr M (by cases v<;>first|rfl|simp_all|simp_all)
def qH (P:Program)(s:Sem Value)(M:zI)(w:World)(v:zW)(u:yV):Prop:=
 ∃rv w' M',s.run P w=.ok rv w'∧w'.os=w.os∧w'.tape=w.tape∧w'.output=w.output∧M'.H=w'.heap∧M'.h=qF M.h u∧Ok M'∧yS M M'∧zP M' v rv
theorem qH.pure {P s M w v rv}(ok:Ok M)(hM:M.H=w.heap)(h:s.run P w=.ok rv w)(hv:zP M v rv):qH P s M w v []:=
 ⟨rv,w,M,h,rfl,rfl,rfl,hM,rfl,ok,yS.refl M,hv⟩
theorem yw sh:∀t x,(cellsOf sh t x).length=t.size
 |.int _,_|.bool,_|.sl _,_=>rfl
 |.pair a b,p=>by simp[cellsOf,yw sh a,yw sh b,Ty.size]
theorem IQ M sh:∀t x rd,qB M.H (bif sh then M.G else M.F) t x rd→
  ∀j h,∃v,rd j=some v∧zQ M (cellsOf sh t x)[j] v
 |.int k,n,rd,h,j,hj
 |.bool,n,rd,h,j,hj=>by
  simp[cellsOf] at hj;obtain rfl:j=0:=by omega
  exact⟨_,h,rfl⟩
 |.sl t,xs,rd,h,j,hj=>by
  simp[cellsOf] at hj;obtain rfl:j=0:=by omega
  obtain⟨A,n,c,h1,h2⟩:=h;refine⟨_,h1,?_⟩;show qB _ _ _ _ _;simp[qB];grind
 |.pair a b,p,rd,h,j,hj=>by
  simp[cellsOf,yw] at hj;by_cases bn:j<(cellsOf sh a p.1).length
  ·obtain⟨v,h1,h2⟩:=IQ M sh a p.1 rd h.1 j bn;refine⟨v,h1,?_⟩;simp[cellsOf,List.getElem_append_left bn];exact h2
  ·have g9:=bn;rw[yw] at g9;obtain⟨v,h1,h2⟩:=IQ M sh b p.2 _ h.2 (j-a.size) (by rw[yw];omega);refine⟨v,by grind,?_⟩;have lN:(cellsOf sh a p.1).length≤j:=by omega
   simp[cellsOf,List.getElem_append_right lN];simp[yw];exact h2
theorem Eg {cells vs off n}(h:kh cells off n=some vs):off+n≤cells.length∧vs=(cells.drop off).take n∧vs.length=n:=by
 unfold kh at h;cases hb:Nat.ble (off+n) cells.length with
 |false=>simp_all
 |true=>
  have:=Nat.le_of_ble_eq_true hb;grind
theorem NH {agg vs v}(h:nz agg vs=some v):(agg=some true∧v=.agg vs)∨(agg=some false∧∃c,vs=[c]∧v=.c c):=by
 unfold nz at h;grind
theorem Ys {P M w}(ok:Ok M)(hM:M.H=w.heap){t B o cells vs off v}
  (jb:∀j h,∃u,yH M.H B (o+j)=some u∧zQ M cells[j] u)
  (dU:kh cells off (P.cellsOf t)=some vs) (hp:nz (wU P t) vs=some v):
  ∃rv,(loadVar t ⟨B,o+off,none⟩).run P w=.ok rv w∧zP M v rv:=by
 obtain⟨h1,h2,h3⟩:=Eg dU;have dj:∀j,j<vs.length→∃u,w.cell? ⟨B,o+off+j,none⟩=some u∧∃c,vs[j]? =some c∧zQ M c u:=by
  intro j hj;obtain⟨u,k1,k2⟩:=jb (off+j) (by omega);refine⟨u,by rw[pf,←hM,Nat.add_assoc];exact k1,cells[off+j],?_,k2⟩;grind
 rcases NH hp with⟨dC,rfl⟩|⟨dC,c,rfl,rfl⟩
 ·obtain⟨⟨d,hd⟩,hr⟩:=ph (P:=P) w dC;obtain⟨i,hi⟩:=IN hd;have hf:∃us:List Value,us.length=vs.length∧∀j (h:j<vs.length),∃u c,us[j]? =some u∧w.cell? ⟨B,o+off+j,none⟩=some u∧vs[j]? =some c∧zQ M c u:=by
   refine⟨(List.range vs.length).map fun j=>(w.cell? ⟨B,o+off+j,none⟩).getD undef,by simp,fun j h=>?_⟩;grind
  obtain⟨us,hl,lO⟩:=hf;have kp := run_loadCells_list (P := P) w ⟨B, o + off, none⟩ us (fun j u hu=>by
   have hj:j<us.length:=by
    grind
   obtain⟨u',c,k1,k2,_⟩:=lO j (by omega);rw[hu] at k1;cases k1;rw[Addr.add_lit];exact k2)
  refine⟨.agg us.toArray,?_,?_⟩
  ·rw[hl,h3] at kp;simp[loadVar,hr,fR w hi,kp]
  ·refine⟨us.toArray,rfl,zK.of_get (by simp_all) fun j k1 k2=>?_⟩;grind
 ·obtain⟨⟨d,hd⟩,hr⟩:=ph (P:=P) w dC;obtain⟨u,k1,c',k2,k3⟩:=dj 0 (by simp);simp at k2;subst k2;refine⟨u,?_,k3⟩;simp at k1;simp[loadVar,hr,k1]
theorem IS {P M w}(ok:Ok M)(hM:M.H=w.heap){t B o cells vs off v}
  (jb:∀j h,∃u,yH M.H B (o+j)=some u∧zQ M cells[j] u)
  (dU:kh cells off (P.cellsOf t)=some vs) (hp:nz (wU P t) vs=some v):
  qH P (loadVar t ⟨B,o+off,none⟩) M w v []:=by
 obtain⟨rv,h1,h2⟩:=Ys (w:=w) ok hM jb dU hp;exact .pure ok hM h1 h2
theorem hY P w a:(Instr.sureAddr (.pointer (some a))).run P w=.ok a w:=rfl
theorem Yt {M own cells C}(h:yP M (.box own cells) C):∃B,C.blk=some B∧∀j h,∃u,yH M.H B (0+j)=some u∧zQ M cells[j] u:=by
 obtain⟨B,vals,e,h1,h2,h3,h4,h5⟩:=h;refine⟨B,h1,fun j hj=>?_⟩;have hl:=h4.length;have kq:j<vals.size:=by simp_all
 refine⟨vals[j],?_,?_⟩
 ·simp[yH,h3]
 ·have:=h4.get j hj (by omega);simp_all
theorem vFe {M cells C}(h:yP M (.robox cells) C):∃B,C.blk=some B∧∀j h,∃u,yH M.H B (0+j)=some u∧zQ M cells[j] u:=by
 obtain⟨B,vals,e,h1,h2,h3,h4,h5⟩:=h;refine⟨B,h1,fun j hj=>?_⟩;have hl:=h4.length;have kq:j<vals.size:=by simp_all
 refine⟨vals[j],?_,?_⟩
 ·simp[yH,h3]
 ·have:=h4.get j hj (by omega);simp_all
theorem yVw {M own t xs C}(h:yP M (.arr own t xs) C){i}(hi:i<xs.length):∃B,C.blk=some B∧
  ∀j h,∃u,yH M.H B (i*C.sz+j)=some u∧zQ M (cellsOf true t (xs.getD i t.dflt))[j] u:=by
 obtain⟨h1,h2,h3,h4⟩:=h;cases hB:C.blk with
 |none=>simp_all
 |some B=>
  rw[hB] at h4;obtain⟨vals,e,h5,h6,h7,h8⟩:=h4;refine⟨B,rfl,fun j hj=>?_⟩;have:=IQ M true t xs[i] _ (h8 i hi) j (by simp_all);obtain⟨v,k1,k2⟩:=this;refine⟨v,?_,?_⟩
  ·rw[h2];simp[yH,h5];exact k1
  simp_all
theorem IT {P t cells off v u}(h:yE (D7 P t cells off) v u):
  ∃vs,kh cells off (P.cellsOf t)=some vs∧nz (wU P t) vs=some v∧u=[]:=by
 obtain⟨h',rfl⟩:=ND h;rw[Option.bind_eq_some_iff] at h';simp_all
theorem kk.one {H rb n v}(h:kk H rb n v):v.one1=true:=by
 cases rb with
 |none=>obtain⟨rfl,_⟩:=h;rfl
 |some R=>obtain⟨a,c,rfl,_⟩:=h;rfl
theorem yx {M ver xs C}(h:yP M (.mat ver xs) C){i} hi:∃B rb v,C.blk=some B∧C.ver=ver∧
  C.rows[i]? =some (rb,xs[i].length)∧yH M.H B i=some v∧kk M.H rb xs[i].length v∧(∀R,rb=some R→∀j (h':j<xs[i].length),yH M.H R j=some (.int .i64 xs[i][j])):=by
 obtain⟨q1,q2,q3,q4,q5,q6⟩:=h;cases hB:C.blk with
 |none=>grind
 |some B=>
  rw[hB] at q6;obtain⟨vals,e,q7,q8,q9⟩:=q6;obtain⟨rb,v,k1,k2,k3,k4⟩:=q9 i hi;refine⟨B,rb,v,rfl,q1,k1,by simp[yH,q7];exact k2,k3,fun R hR j hj=>?_⟩;obtain⟨rv,er,k5,k6⟩:=k4 R hR;simp[yH];simp_all
theorem yZ3 {P M w}(ok:Ok M)(hM:M.H=w.heap){t a v u ra}(ha:zP M a ra)
  (h:yE (ya P M.h t a) v u):qH P (Instr.loadAt t ra) M w v u:=by
 unfold ya at h;split at h
 ·split at h
  ·rename_i own cells ah;obtain⟨vs,h1,h2,rfl⟩:=IT h;obtain⟨C,B,hC,hB,rfl⟩:=ha;obtain⟨C',aw,hO⟩:=ok.obj _ _ ah;rw[hC] at aw;cases aw;obtain⟨B',hZ,aA⟩:=Yt hO;rw[hB] at hZ;cases hZ;have:=IS (P:=P) ok hM (t:=t) (o:=0) aA h1 h2
   simpa[Instr.loadAt,qH,hY] using this
  ·rename_i cells ah;obtain⟨vs,h1,h2,rfl⟩:=IT h;obtain⟨C,B,hC,hB,rfl⟩:=ha;obtain⟨C',aw,hO⟩:=ok.obj _ _ ah;rw[hC] at aw;cases aw;obtain⟨B',hZ,aA⟩:=vFe hO;rw[hB] at hZ;cases hZ;have:=IS (P:=P) ok hM (t:=t) (o:=0) aA h1 h2
   simpa[Instr.loadAt,qH,hY] using this
  ·exact h.elim
 ·rename_i sh ty x off;obtain⟨vs,h1,h2,rfl⟩:=IT h;obtain⟨B,o,rfl,hB,hE⟩:=ha;have:=IS (P:=P) ok hM (t:=t) (B:=B) (o:=o) (fun j hj=>IQ M sh ty x _ hE j hj) h1 h2
  simpa[Instr.loadAt,qH,hY] using this
 ·rename_i id i off;split at h
  ·rename_i own ty xs ah;obtain⟨vs,h1,h2,rfl⟩:=IT h;obtain⟨C,B,hC,hB,hi,rfl⟩:=ha;obtain⟨C',aw,hO⟩:=ok.obj _ _ ah;rw[hC] at aw;cases aw;obtain⟨B',hZ,aA⟩:=yVw hO (i:=i) (by rw[←hO.1];exact hi);rw[hB] at hZ;cases hZ;have:=IS (P:=P) ok hM (t:=t) aA h1 h2
   simpa[Instr.loadAt,qH,hY] using this
  ·exact h.elim
 ·rename_i id i;split at h
  ·rename_i ver xs ah;split at h
   ·rename_i dC;obtain⟨rfl,rfl⟩:=vQ h;obtain⟨C,B,hC,hB,hi,rfl⟩:=ha;obtain⟨C',aw,hO⟩:=ok.obj _ _ ah;rw[hC] at aw;cases aw;obtain⟨B',rb,x,k0,kv,k1,k2,k3,k4⟩:=yx hO (i:=i) (by rw[←hO.2.1];exact hi);rw[hB] at k0;cases k0;obtain⟨_,hr⟩:=ph (P:=P) w dC;have yH:w.cell? ⟨B,i,none⟩=some x:=by rw[pf,←hM];exact k2
    exact qH.pure ok hM (rv:=x) (by simp[Instr.loadAt,hY,loadVar,hr,yH]) ⟨C,hC,k3.one,by omega,by grind⟩
   ·exact h.elim
  ·exact h.elim
 ·rename_i id i j ver;split at h
  ·rename_i v' xs ah;cases hv:Nat.beq v' ver with
   |false=>rw[hv] at h;exact h.elim
   |true=>
    rw[hv] at h;have hv:=Nat.eq_of_beq_eq_true hv;subst hv;split at h
    ·rename_i dC;obtain⟨rfl,rfl⟩:=vQ h;obtain⟨C,hC,h1,hle,hm⟩:=ha;obtain⟨C',aw,hO⟩:=ok.obj _ _ ah;rw[hC] at aw;cases aw;obtain⟨R,rl,k1,k2,rfl⟩:=hm hO.1;have hi:i<xs.length:=by
      rw[←hO.2.2.2.1];grind
     obtain⟨B',rb,x,q0,qv,q1,q2,q3,q4⟩:=yx hO hi;rw[k1] at q1;cases q1;obtain⟨_,hr⟩:=ph (P:=P) w dC;have yH:w.cell? ⟨R,j,none⟩=some (.int .i64 xs[i][j]):=by rw[pf,←hM];exact by grind
     refine qH.pure ok hM (rv:=.int .i64 xs[i][j]) (by simp[Instr.loadAt,hY,loadVar,hr,yH]) ?_;show _=_;simp[List.getD,hi,k2]
    ·exact h.elim
  ·exact h.elim
 ·exact h.elim
theorem iN h:∀u v,qF h (u++v)=qF (qF h u) v
 |[],_=>rfl
 |(id,o)::u,v=>iN (qW h id o) u v
theorem NI h id o:qF h [(id,o)]=qW h id o:=rfl
theorem yy {h id o}(e:h id=some o):qW h id o=h:=by
 funext n;by_cases hn:n=id
 ·subst hn;rw[yG];simp_all
 ·rw[yI _ _ hn]
theorem NJ:∀vs cells off out,ug cells off vs=some out→
  (vs=[]∨off+vs.length≤cells.length)∧out=cells.take off++vs++cells.drop (off+vs.length)
 |[],cells,off,out,h=>by
  simp[ug] at h;simp_all
 |v::vs,cells,off,out,h=>by
  unfold ug at h;cases hb:Nat.blt off cells.length with
  |false=>simp_all
  |true=>
   rw[hb] at h;have bn:off<cells.length:=Nat.le_of_ble_eq_true hb;obtain⟨h1,h2⟩:=NJ vs (cells.set off v) (off+1) out h;refine⟨by grind,?_⟩;have e1:(cells.set off v).take (off+1)=cells.take off++[v]:=by
    rw[List.take_succ_eq_append_getElem (by simp_all),List.take_set_of_le (by simp)];simp
   have e2:(cells.set off v).drop (off+1+vs.length)=cells.drop (off+(v::vs).length):=by
    rw[List.drop_set_of_lt (by omega)];grind
   simp_all
theorem IU {M v rv vs}(h:lJ v=some vs)(hv:zP M v rv):zK (zQ M) vs rv.cells.toList:=by
 unfold lJ at h;split at h
 ·cases h;have h1:=zQ.one hv;have:rv.cells=#[rv]:=by cases rv<;>first|rfl|cases h1
  rw[this];exact⟨hv,trivial⟩
 ·cases h;obtain⟨us,rfl,h⟩:=hv;exact h
 ·cases h
theorem NK {M}:∀{vs us},zK (zQ M) vs us→∀u∈us,u.one1=true
 |[],[],_,_,h=>by cases h
 |_::_,u::us,hh,x,h=>by
  cases h with
  |head=>exact hh.1.one
  |tail _ h=>exact NK hh.2 x h
def kt (P:Program)(s:Sem Unit)(M:zI)(w:World)(u:yV):Prop:=
 ∃w' M',s.run P w=.ok () w'∧w'.os=w.os∧w'.tape=w.tape∧w'.output=w.output∧M'.H=w'.heap∧M'.h=qF M.h u∧Ok M'∧yS M M'
def yK (vals:Array Value)(off:Nat)(us:List Value):Array Value:=(vals.toList.take off++us++vals.toList.drop (off+us.length)).toArray
theorem eZ {vals off us}(h:off+us.length≤vals.size):(yK vals off us).size=vals.size:=by
 simp[yK];omega
theorem wP {vals off us}(h:off+us.length≤vals.size) j:
  (yK vals off us)[j]? =if j<off then vals[j]? else if j<off+us.length then us[j-off]? else vals[j]? :=by
 simp[yK];grind
theorem lP {w:World}{B vals new e}(h:w.heap[B]? =some (.cells vals e (0,0)))(hs:new.size=vals.size):
  (w.setRow B new).heap.size=w.heap.size∧(w.setRow B new).heap[B]? =some (.cells new e (0,0))∧(∀b,b≠B→(w.setRow B new).heap[b]? =w.heap[b]?)∧
  (∀b,qP (w.setRow B new).heap b=qP w.heap b):=by
 have h1:=setRow_heap w B vals new e (0,0) h;have h2:∀b,b≠B→(w.setRow B new).heap[b]? =w.heap[b]? :=fun b hb=>setRow_other w B b new hb
 refine⟨by simp,h1,h2,fun b=>?_⟩;by_cases hb:b=B
 ·subst hb;simp[qP,h1,h];exact hs
 ·exact yu (h2 b hb)
theorem NL {P w t B off vals e rv}(h:w.heap[B]? =some (.cells vals e (0,0)))
  (hn:rv.cells.size=P.cellsOf t) (h0:0<P.cellsOf t) (aG:off+rv.cells.size≤vals.size) (h1:∀u∈rv.cells.toList,u.one1=true):
  (storeVar t ⟨B,off,none⟩ rv).run P w=.ok () (w.setRow B (yK vals off rv.cells.toList)):=by
 obtain⟨i,hi⟩:=lM h0;have gC:=run_storeCells_at (P:=P) B off e rv.cells.toList 0 vals w h (by omega) (fun v hv=>uu (h1 v hv));have:¬rv.cells.size≠P.cellsOf t:=by omega
 simp only[storeVar,Sem.run_bind,fR w hi,Result.andThen_ok,this];exact gC
theorem NM {M M'}(x:yD M M'){cells vs vals us off}(h:zK (zQ M) cells vals.toList)(hv:zK (zQ M) vs us)
  (aG:off+us.length≤vals.size):zK (zQ M') (cells.take off++vs++cells.drop (off+vs.length)) (yK vals off us).toList:=by
 have hl:=hv.length;rw[hl];exact((h.take off).append hv|>.append (h.drop _)).mono fun _ _ hc=>hc.ext x
def wF (h0 h:Hp):Prop:=∀id,h id=h0 id∨(∃own t xs,h0 id=some (.arr own t xs)∧h id=some (.arr false t xs))∨
 (∃ver xs,h0 id=some (.mat ver xs)∧h id=some (.arr false (.sl (.int .i64)) xs))
theorem wF.refl h:wF h h:=fun _=>.inl rfl
theorem yz {α}{xs:List α}{lo n}(h:lo+n≤xs.length):(qZ xs lo n).length=n:=by
 simp[qZ];omega
theorem IV {α}{xs:List α}{lo n i} h:∃h':lo+i<xs.length,(qZ xs lo n)[i]=xs[lo+i]:=by
 have:lo+i<xs.length:=by simp[qZ] at h;omega
 exact⟨this,by simp[qZ]⟩
theorem Yu {H G C t xs lo n v}(dA:C.sz=t.size)(hn:lo+n≤xs.length)(h:wG H C lo n v)
  (hx:match C.blk with
   |none=>xs=[]
   |some B=>G B∧∃vals e,H[B]? =some (.cells vals e (0,0))∧∀i h,qB H G t xs[i] (fun j=>vals[i*t.size+j]?)):
  qB H G (.sl t) (qZ xs lo n) (fun _=>some v):=by
 obtain⟨A,c,rfl,h⟩:=h;cases hB:C.blk with
 |none=>
  rw[hB] at h hx;obtain⟨rfl,rfl,rfl⟩:=h;exact⟨none,0,0,rfl,by rfl,by simp,.inl ⟨by rfl,by simp⟩⟩
 |some B=>
  rw[hB] at h hx;obtain⟨hc,a,rfl,ha,aG⟩:=h;obtain⟨hG,vals,e,hv,hE⟩:=hx;have hl:=yz hn;refine⟨_,n,c,rfl,hl.symm,hc,?_⟩;by_cases h0:n=0
  ·simp_all
  ·refine .inr ⟨B,a,rfl,hG,fun i hi=>?_⟩;obtain⟨bE,e1⟩:=IV hi;have nF:a=lo*C.sz:=by omega
   have e2:(fun j=>yH H B (a+i*t.size+j))=fun j=>vals[(lo+i)*t.size+j]? :=by
    rw[nF,dA,←Nat.add_mul];simp[yH,hv]
   simp_all
theorem Yv {α}(xs:List α):qZ xs 0 xs.length=xs:=by simp[qZ]
theorem uv {M t xs C id r v}(hC:M.κ id=some C)(hO:yP M (.arr false t xs) C)(h:zQ M (.osl id r) v):
  qB M.H M.G (.sl t) (gA xs r) (fun _=>some v):=by
 obtain⟨h1,h2,h3,h4⟩:=hO;obtain⟨C',aw,h⟩:=h;rw[hC] at aw;cases aw;have hx:match C.blk with
   |none=>xs=[]
   |some B=>M.G B∧∃vals e,M.H[B]? =some (.cells vals e (0,0))∧∀i (h:i<xs.length),qB M.H M.G t xs[i] (fun j=>vals[i*t.size+j]?):=by
  grind
 cases r with
 |none=>
  have:=Yu (G:=M.G) h2 (lo:=0) (n:=C.len) (by omega) h hx;rw[h1,Yv] at this;exact this
 |some p=>
  obtain⟨h5,h6,_⟩:=h;exact Yu (G:=M.G) h2 (by omega) h6 hx
theorem Yw {M}(ok:Ok M){id t xs}(ah:M.h id=some (.arr true t xs)):
  ∃M',M'.H=M.H∧M'.h=qW M.h id (.arr false t xs)∧Ok M'∧yS M M'∧M'.κ=M.κ:=by
 obtain⟨C,hC,hO⟩:=ok.obj id _ ah;have pj:yP (M.freeze id (.arr false t xs) C) (.arr false t xs) C:=by
  have x:yD M (M.freeze id (.arr false t xs) C):=⟨fun _ C h=>⟨C,h,C.le_refl⟩,fun _ h=>.inl h,fun _ h=>.inl h,fun _ _=>rfl,fun _ _=>rfl,fun _ _=>rfl⟩;obtain⟨h1,h2,h3,h4⟩:=hO.ext x fun _ _ _=>rfl
  refine⟨h1,h2,by simp,?_⟩;cases hB:C.blk with
  |none=>simp_all
  |some B=>
   rw[hB] at h4;obtain⟨vals,e,h5,h6,h7,h8⟩:=h4;exact⟨vals,e,h5,fun _=>.inr (by simp[zZ.fp,hB]),h7,h8⟩
 have:=zI.freeze_ok ok ah rfl hC rfl pj;exact⟨M.freeze id _ C,rfl,rfl,this.1,this.2,rfl⟩
theorem Yx {M}(ok:Ok M){id t xs}(ah:M.h id=some (.arr true t xs)):
  ∃M',M'.H=M.H∧M'.h=qW M.h id (.arr false t xs)∧Ok M'∧yS M M':=by
 obtain⟨M',h1,h2,h3,h4,_⟩:=Yw ok ah;grind
theorem Yy {M}(ok:Ok M){id ver xs}(ah:M.h id=some (.mat ver xs)):
  ∃M',M'.H=M.H∧M'.h=qW M.h id (.arr false (.sl (.int .i64)) xs)∧Ok M'∧yS M M'∧M'.κ=M.κ:=by
 obtain⟨C,hC,hO⟩:=ok.obj id _ ah;have pj:yP (M.freeze id (.arr false (.sl (.int .i64)) xs) C) (.arr false (.sl (.int .i64)) xs) C:=by
  obtain⟨h1,h2,h3,h4,h5,h6⟩:=hO;refine⟨h2,h3,by simp,?_⟩;cases hB:C.blk with
  |none=>rw[hB] at h6;exact h6
  |some B=>
   rw[hB] at h6;obtain⟨vals,e,h7,h8,h9⟩:=h6;refine⟨vals,e,h7,fun _=>.inr (by simp[zZ.fp,hB]),by simpa[Ty.size] using h8,fun i hi=>?_⟩;obtain⟨rb,v,k1,k2,k3,k4⟩:=h9 i hi;simp only[qB,Ty.size,Nat.mul_one,Nat.add_zero];cases rb with
   |none=>
    obtain⟨rfl,hl⟩:=k3;grind
   |some R=>
    obtain⟨a,c,rfl,hc,ha,hs⟩:=k3;obtain⟨rv,er,k5,k6⟩:=k4 R rfl;by_cases cA:xs[i]=[]
    ·grind
    have kV:a=0:=by
     have:0<xs[i].length:=by grind
     omega
    subst kV;refine⟨_,_,c,k2,rfl,hc,.inr ⟨R,0,rfl,.inr ?_,fun j hj=>?_⟩⟩
    ·simp only[zZ.fp,List.mem_append];grind
    ·have e1:(M.freeze id (Obj.arr false (.sl (.int .i64)) xs) C).H=M.H:=rfl;simp[e1,yH,k5,Nat.zero_add];exact k6 j hj
 have:=zI.freeze_ok ok ah rfl hC rfl pj;exact⟨M.freeze id _ C,rfl,rfl,this.1,this.2,rfl⟩
theorem Yz {M}(ok:Ok M){id ver xs}(ah:M.h id=some (.mat ver xs)):
  ∃M',M'.H=M.H∧M'.h=qW M.h id (.arr false (.sl (.int .i64)) xs)∧Ok M'∧yS M M':=by
 obtain⟨M',h1,h2,h3,h4,_⟩:=Yy ok ah;grind
theorem Eh {M}(ok:Ok M){h0}(hf:wF h0 M.h){c c' v u}(hc:zQ M c v)(h:lL h0 c=some (c',u)):
  ∃M',M'.H=M.H∧M'.h=qF M.h u∧Ok M'∧yS M M'∧zQ M' c' v∧wF h0 M'.h∧(∀p∈u,p.2.owned=false):=by
 have aai : c' = c → u = [] → _ := fun e1 e2 => (⟨M,rfl,by rw[e2];rfl,ok,yS.refl M,by simp_all,hf,by simp[e2]⟩:
  ∃M',M'.H=M.H∧M'.h=qF M.h u∧Ok M'∧yS M M'∧zQ M' c' v∧wF h0 M'.h∧(∀p∈u,p.2.owned=false))
 cases c with
 |osl id r=>
  have key:∀(t:Ty) (xs:List t.den),(∀M',Ok M'→M'.h id=some (.arr false t xs)→zQ M' (.osl id r) v→zQ M' (.fsl true t (gA xs r)) v):=by
   intro t xs M' ic mz jc;obtain⟨C,hC,hO⟩:=ic.obj id _ mz;exact uv hC hO jc
  unfold lL at h;simp only at h;split at h
  ·rename_i own t xs je;cases h;rcases hf id with e|⟨o2,t2,NN,e1,e2⟩|⟨ver,NN,e1,e2⟩
   ·rw[je] at e;cases own with
    |true=>
     obtain⟨M',h1,h2,ic,bF⟩:=Yx ok e;refine⟨M',h1,h2,ic,bF,key t xs M' ic (by rw[h2];exact yG _ _ _) (hc.ext bF.ext),fun n=>?_,by simp[Obj.owned]⟩;by_cases hn:n=id
     ·subst hn;exact .inr (.inl ⟨true,t,xs,je,by rw[h2];exact yG _ _ _⟩)
     ·rw[h2,yI _ _ hn];exact hf n
    |false=>exact⟨M,rfl,(yy e).symm,ok,yS.refl M,by grind,hf,by simp[Obj.owned]⟩
   ·rw[je] at e1;cases e1;exact⟨M,rfl,(yy e2).symm,ok,yS.refl M,by grind,hf,by simp[Obj.owned]⟩
   simp_all
  ·rename_i ver xs je;split at h
   ·cases h;rcases hf id with e|⟨o2,t2,NN,e1,e2⟩|⟨aaj,NN,e1,e2⟩
    ·rw[je] at e;obtain⟨M',h1,h2,ic,bF⟩:=Yz ok e;refine⟨M',h1,h2,ic,bF,key (.sl (.int .i64)) xs M' ic (by rw[h2];exact yG _ _ _) (hc.ext bF.ext),fun n=>?_,by simp[Obj.owned]⟩;by_cases hn:n=id
     ·subst hn;exact .inr (.inr ⟨ver,xs,je,by rw[h2];exact yG _ _ _⟩)
     ·rw[h2,yI _ _ hn];exact hf n
    ·simp_all
    ·rw[je] at e1;cases e1;exact⟨M,rfl,(yy e2).symm,ok,yS.refl M,key (.sl (.int .i64)) xs M ok e2 hc,hf,by simp[Obj.owned]⟩
   ·cases h
  ·cases h
 |mrow _ _ _=>cases h
 |_=>cases h;simp_all
theorem NO {h0}:∀{cs aM vs u M},Ok M→wF h0 M.h→zK (zQ M) cs vs→kR h0 cs=some (aM,u)→
  ∃M',M'.H=M.H∧M'.h=qF M.h u∧Ok M'∧yS M M'∧zK (zQ M') aM vs∧wF h0 M'.h∧(∀p∈u,p.2.owned=false)
 |[],aM,[],u,M,ok,hf,_,h=>by cases h;exact⟨M,rfl,rfl,ok,yS.refl M,trivial,hf,by simp⟩
 |c::cs,aM,v::vs,u,M,ok,hf,hc,h=>by
  unfold kR at h;split at h
  ·rename_i c1 u1 ku nG e1 e2;cases h;obtain⟨M1,a1,a2,a3,a4,a5,a6,a7⟩:=Eh ok hf hc.1 e1;obtain⟨M2,b1,b2,b3,b4,b5,b6,b7⟩:=NO a3 a6 (hc.2.mono fun _ _ k=>k.ext a4.ext) e2;refine⟨M2,b1.trans a1,by rw[b2,a2,iN],b3,a4.trans b4,⟨a5.ext b4.ext,b5⟩,b6,fun p hp=>?_⟩;grind
  ·cases h
theorem iO {a b xs ys}(h:fx a b xs=some ys):∃e:a=b,e▸xs=ys:=by
 unfold fx at h;grind
theorem NP {a b}(h:Nat.blt a b=true):a<b:=Nat.le_of_ble_eq_true h
theorem yWn {a b}(h:Nat.blt a b=false):¬a<b:=fun hh=>by
 have:Nat.blt a b=true:=Nat.ble_eq_true_of_le hh;simp_all
theorem YA {k off c n}(h:Nc k off c=some n):off=0∧c=.int k n:=by
 unfold Nc at h;split at h
 ·rename_i j m;cases hb:jY j k with
  |false=>simp_all
  |true=>
   have:=oV hb;simp_all
 ·cases h
theorem YB {off c n}(h:Nd off c=some n):off=0∧c=.bool n:=by
 unfold Nd at h;grind
theorem YC {t off c xs}(h:Nf t off c=some xs):off=0∧(c=.fsl true t xs∨(c=.nsl∧xs=[])):=by
 unfold Nf at h;split at h
 ·obtain⟨e,h⟩:=iO h;grind
 all_goals simp_all
theorem YD {a b p q off c}(h:oW (.pair a b) p off c=some q):
  (off<a.size∧oW a p.1 off c=some q.1∧q.2=p.2)∨(¬off<a.size∧oW b p.2 (off-a.size) c=some q.2∧q.1=p.1):=by
 simp[oW] at h;cases hb:Nat.blt off a.size with
 |true=>
  rw[hb] at h;split at h
  ·cases h;simp_all
  ·cases h
 |false=>
  rw[hb] at h;simp  at h;split at h
  ·rename_i x hx;cases h;exact .inr ⟨yWn hb,hx,rfl⟩
  ·cases h
theorem YE:∀{t x y off c},oW t x off c=some y→off<t.size
 |.int k,x,y,off,c,h=>by rw[(YA h).1];simp[Ty.size]
 |.bool,x,y,off,c,h=>by rw[(YB h).1];simp[Ty.size]
 |.sl t,x,y,off,c,h=>by rw[(YC h).1];simp[Ty.size]
 |.pair a b,x,y,off,c,h=>by
  simp[Ty.size];rcases YD h with⟨h1,_⟩|⟨h1,h2,_⟩
  ·omega
  ·have:=YE h2;omega
theorem NQ {M}:∀t x y off c u rd eL,qB M.H M.G t x rd→oW t x off c=some y→zQ M c u→
  eL off=some u→(∀j,j≠off→j<t.size→eL j=rd j)→qB M.H M.G t y eL
 |.int k,x,y,off,c,u,rd,eL,hE,h,hc,hr,jb=>by
  obtain⟨rfl,rfl⟩:=YA h;simp[qB];rw[hr,show u=_ from hc]
 |.bool,x,y,off,c,u,rd,eL,hE,h,hc,hr,jb=>by
  obtain⟨rfl,rfl⟩:=YB h;simp[qB];rw[hr,show u=_ from hc]
 |.sl t,x,y,off,c,u,rd,eL,hE,h,hc,hr,jb=>by
  obtain⟨rfl,rfl|⟨rfl,rfl⟩⟩:=YC h
  ·have jc:qB M.H M.G (.sl t) y (fun _=>some u):=hc;refine yR (by simp) (by simp) _ _ _ _ (fun j hj=>?_) jc;simp[Ty.size] at hj;simp_all
  ·exact⟨none,0,0,by rw[hr,show u=_ from hc],rfl,by simp,by simp⟩
 |.pair a b,x,y,off,c,u,rd,eL,hE,h,hc,hr,jb=>by
  simp[Ty.size] at jb;rcases YD h with⟨h1,h2,h3⟩|⟨h1,h2,h3⟩
  ·refine⟨NQ a _ _ off c u rd eL hE.1 h2 hc hr (by grind),?_⟩;rw[h3];exact yR (by simp) (by simp) _ _ _ _ (by grind) hE.2
  ·refine⟨?_,NQ b _ _ (off-a.size) c u _ _ hE.2 h2 hc (by simp_all) (by grind)⟩;rw[h3];exact yR (by simp) (by simp) _ _ _ _ (by grind) hE.1
theorem YF {t}:∀{vs x y off},oX t x off vs=some y→vs=[]∨off+vs.length≤t.size
 |[],_,_,_,_=>.inl rfl
 |v::vs,x,y,off,h=>by
  unfold oX at h;split at h
  ·rename_i z hz;have h1:=YE hz;rcases YF h with rfl|h2
   all_goals grind
  ·cases h
theorem NR {M} t:∀vs us x y off rd eL,qB M.H M.G t x rd→oX t x off vs=some y→zK (zQ M) vs us→
  (∀i,i<us.length→eL (off+i)=us[i]?)→(∀j,(j<off∨off+us.length≤j)→j<t.size→eL j=rd j)→qB M.H M.G t y eL
 |[],[],x,y,off,rd,eL,hE,h,_,_,jb=>by
  cases h;exact yR (by simp) (by simp) _ _ _ _ (by grind) hE
 |v::vs,u::us,x,y,off,rd,eL,hE,h,hc,hr,jb=>by
  unfold oX at h;split at h
  ·rename_i z hz;have h1:=NQ t x z off v u rd (fun j=>if j=off then some u else rd j) hE hz hc.1 (by simp) (by grind);refine NR t vs us z y (off+1) _ eL h1 h hc.2 (fun i hi=>?_) (fun j hj rV=>?_)
   ·have:=hr (i+1) (by simp;omega);grind
   ·by_cases e:j=off
    ·have:=hr 0 (by simp);simp_all
    grind
  ·cases h
theorem YG {i k sz j:Nat}(h:i≠k)(hj:j<sz):k*sz+j<i*sz∨i*sz+sz≤k*sz+j:=by
 rcases Nat.lt_or_gt_of_ne h with h|h
 ·have:=Nat.mul_le_mul_right sz (show i+1≤k by omega);grind
 ·have:=Nat.mul_le_mul_right sz (show k+1≤i by omega);grind
theorem vF5 {C:zZ}(hn:C.fp.Nodup){i k:Nat}{R R':Nat}{a b:Nat}(hi:C.rows[i]? =some (some R,a))(hk:C.rows[k]? =some (some R',b))(h:i≠k):R≠R':=by
 intro e;subst e;have y8:(C.rows.filterMap (·.1)).Nodup:=(List.nodup_append.1 hn).2.1;clear hn;have gen:∀(l:List (Option Nat×Nat)) (i k:Nat),i<k→l[i]? =some (some R,a)∨l[i]? =some (some R,b)→l[k]? =some (some R,b)∨l[k]? =some (some R,a)→(l.filterMap (·.1)).Nodup→False:=by
  intro l
  induction l with
  |nil=>intro i k _ h1 _ _;simp at h1
  |cons x l ih=>
   intro i k NS h1 h2 hn;obtain⟨k,rfl⟩:∃m,k=m+1:=⟨k-1,by omega⟩;have dD:R∈l.filterMap (·.1):=by
    simp only[List.getElem?_cons_succ] at h2;rcases h2 with h2|h2<;>exact List.mem_filterMap.2 ⟨_,List.mem_of_getElem? h2,rfl⟩
   cases i with
   |zero=>
    grind
   |succ i=>
    grind
 grind
theorem NT {C:zZ}(hn:C.fp.Nodup){k R B b:Nat}(hk:C.rows[k]? =some (some R,b))(hB:C.blk=some B):R≠B:=by
 intro e;subst e;have:=(List.nodup_append.1 hn).2.2 R (by simp[hB]) R (by grind);omega
theorem jT {C:zZ}{B}(h:C.blk=some B):B∈C.fp:=by simp[zZ.fp,h]
theorem vHe {C:zZ}{k R b:Nat}(h:C.rows[k]? =some (some R,b)):R∈C.fp:=by
 simp[zZ.fp];grind
theorem NU {P M w}(ok:Ok M)(hM:M.H=w.heap){t id o o' C B off vals e rv}
  (ah:M.h id=some o) (aJ:o.owned=true) (hC:M.κ id=some C) (hB:B∈C.fp) (hb:M.H[B]? =some (.cells vals e (0,0)))
  (hn:rv.cells.size=P.cellsOf t) (h0:0<P.cellsOf t) (aG:off+rv.cells.size≤vals.size) (h1:∀u∈rv.cells.toList,u.one1=true)
  (hO:∀M',M'.κ=κset M.κ id C→M'.F=M.F→M'.G=M.G→yD M M'→M'.H[B]? =some (.cells (yK vals off rv.cells.toList) e (0,0))→(∀b,b≠B→M'.H[b]? =M.H[b]?)→yP M' o' C):
  kt P (storeVar t ⟨B,off,none⟩ rv) M w [(id,o')]:=by
 have bD:w.heap[B]? =some (.cells vals e (0,0)):=by simp_all
 have hr:=NL (P:=P) bD hn h0 aG h1;obtain⟨f1,f2,f3,f4⟩:=lP bD (new:=yK vals off rv.cells.toList) (eZ (by omega));have hH:∀b,b∉C.fp→(w.setRow B (yK vals off rv.cells.toList)).heap[b]? =M.H[b]? :=by grind
 have cC:∀b,b<M.H.size→qP (w.setRow B (yK vals off rv.cells.toList)).heap b=qP M.H b:=by grind
 have x:=zI.write_ext ok ah aJ hC C.le_refl hH cC o';have:=zI.write_ok ok ah aJ hC C.le_refl (by simp) (by rw[hM];exact f1) hH cC
  (hO (M.write id o' C _) rfl rfl rfl x f2 (fun b pn=>by rw[hM];exact f3 b pn))
 exact⟨_,_,hr,rfl,rfl,rfl,rfl,rfl,this.1,this.2⟩
theorem vPf {P M w}(ok:Ok M)(hM:M.H=w.heap){t id off cells bB vs B C rv}
  (ah:M.h id=some (.box true cells)) (hC:M.κ id=some C) (hB:C.blk=some B) (de:zK (zQ M) vs rv.cells.toList) (hn:vs.length=P.cellsOf t) (h0:0<vs.length)
  (hp:ug cells off vs=some bB):kt P (storeVar t ⟨B,off,none⟩ rv) M w [(id,.box true bB)]:=by
 obtain⟨C',aw,hO⟩:=ok.obj id _ ah;rw[hC] at aw;cases aw;obtain⟨B',vals,e,k1,k2,k3,k4,k5⟩:=hO;rw[hB] at k1;cases k1;obtain⟨p1,p2⟩:=NJ vs cells off bB hp;have hl:vs.length=rv.cells.size:=by simpa using de.length
 have aG:off+rv.cells.size≤vals.size:=by
  have:=k4.length;grind
 refine NU ok hM ah rfl hC (jT hB) k3 (by omega) (by omega) aG (NK de) fun M' _ _ hG x h1 h2=>?_
 refine⟨B,_,e,hB,k2,h1,?_,by simp⟩;rw[p2];exact NM x k4 de (by omega)
theorem vGj {P M w}(ok:Ok M)(hM:M.H=w.heap){t id i off ty xs x vs B C rv}
  (ah:M.h id=some (.arr true ty xs)) (hC:M.κ id=some C) (hB:C.blk=some B) (hi:i<C.len) (de:zK (zQ M) vs rv.cells.toList) (hn:vs.length=P.cellsOf t) (h0:0<vs.length)
  (hp:oX ty (xs.getD i ty.dflt) off vs=some x):kt P (storeVar t ⟨B,i*C.sz+off,none⟩ rv) M w [(id,.arr true ty (xs.set i x))]:=by
 obtain⟨C',aw,hO⟩:=ok.obj id _ ah;rw[hC] at aw;cases aw;obtain⟨k1,k2,k3,k4⟩:=hO;rw[hB] at k4;obtain⟨vals,e,k5,k6,k7,k8⟩:=k4;have hl:vs.length=rv.cells.size:=by simpa using de.length
 have aak:off+vs.length≤ty.size:=by
  rcases YF hp with rfl|h
  ·simp at h0
  ·exact h
 have Ei:i<xs.length:=by omega
 have e1:xs.getD i ty.dflt=xs[i]:=by simp[List.getD,Ei]
 have aU:=Nat.mul_le_mul_right ty.size (show i+1≤xs.length by omega);rw[Nat.add_mul] at aU;have aG:i*C.sz+off+rv.cells.size≤vals.size:=by rw[k2];omega
 refine NU ok hM ah rfl hC (jT hB) k5 (by omega) (by omega) aG (NK de) fun M' _ _ hG xt h1 h2=>?_
 refine⟨by simp_all,k2,k3,?_⟩;rw[hB];refine⟨_,e,h1,by simp,by rw[List.length_set,eZ (by simpa using aG)];exact k7,fun k hk=>?_⟩;rw[List.length_set] at hk;have IW:=yR (F:=M.G) (F':=M'.G) xt.G xt.sameG ty _ _ _ (fun _ _=>rfl) (k8 k hk);by_cases e2:k=i
 ·subst e2;simp;refine NR ty vs rv.cells.toList xs[k] x off _ _ IW (by rw[←e1];exact hp) (de.mono fun _ _ h=>h.ext xt) (fun j hj=>?_) (fun j hj rV=>?_)
  ·rw[wP (by simpa using aG),if_neg (by rw[k2];omega),if_pos (by grind),k2]
   congr 1;omega
  ·rw[wP (by simpa using aG)];grind
 ·rw[List.getElem_set_ne (by grind)];refine yR (by simp) (by simp) ty _ _ _ (fun j hj=>?_) IW;rw[wP (by simpa using aG)];rw[k2];rcases YG (Ne.symm e2) hj with h|h
  all_goals grind
theorem vBn {P M w}(ok:Ok M)(hM:M.H=w.heap){t id i j ver xs n R rl C}
  (ah:M.h id=some (.mat ver xs)) (hC:M.κ id=some C) (hR:C.rows[i]? =some (some R,rl)) (hj:j<rl) (hn:1=P.cellsOf t):
  kt P (storeVar t ⟨R,j,none⟩ (.int .i64 n)) M w [(id,.mat ver (xs.set i ((xs.getD i []).set j n)))]:=by
 obtain⟨C',aw,hO⟩:=ok.obj id _ ah;rw[hC] at aw;cases aw;obtain⟨k1,k2,k3,k4,k5,k6⟩:=hO;have hi:i<xs.length:=by
  rw[←k4];rcases Nat.lt_or_ge i C.rows.length with h|h
  ·exact h
  ·rw[List.getElem?_eq_none h] at hR;cases hR
 cases hB:C.blk with
 |none=>rw[hB] at k6;subst k6;simp at hi
 |some B=>
  rw[hB] at k6;obtain⟨vals,e,k7,k8,k9⟩:=k6;obtain⟨rb,v,q1,q2,q3,q4⟩:=k9 i hi;rw[hR] at q1;cases q1;obtain⟨rv,er,q5,q6⟩:=q4 R rfl;have hRB:R≠B:=NT k5 hR hB;have rV:j<rv.size:=by
   have:=q6 j hj;rcases Nat.lt_or_ge j rv.size with h|h
   ·exact h
   ·rw[Array.getElem?_eq_none h] at this;cases this
  have e1:xs.getD i []=xs[i]:=by simp[List.getD,hi]
  refine NU ok hM ah rfl hC (vHe hR) q5 (by rw[←hn];rfl) (by omega) (by show j+1≤rv.size;omega) (by intro u hu;simp[Value.cells] at hu;subst hu;rfl) fun M' _ _ hG x h1 h2=>?_
  refine⟨k1,by rw[List.length_set];exact k2,k3,by rw[List.length_set];exact k4,k5,?_⟩;rw[hB];refine⟨vals,e,by rw[h2 B (Ne.symm hRB)];exact k7,by rw[List.length_set];exact k8,fun k hk=>?_⟩;rw[List.length_set] at hk;by_cases e2:k=i
  ·subst e2;simp only[List.getElem_set_self,e1,List.length_set];refine⟨some R,v,hR,q2,q3.ext x,fun R' uw=>?_⟩;cases uw;refine⟨_,er,h1,fun m hm=>?_⟩;rw[wP (by show j+1≤rv.size;omega)];show(if m<j then rv[m]? else if m<j+1 then[Value.int .i64 n][m-j]? else rv[m]?)=_;grind
  ·rw[List.getElem_set_ne (Ne.symm e2)];obtain⟨mA,v',p1,p2,p3,p4⟩:=k9 k hk;refine⟨mA,v',p1,p2,p3.ext x,fun R' uw=>?_⟩;subst uw;obtain⟨po,Ej,p5,p6⟩:=p4 R' rfl;exact⟨po,Ej,by rw[h2 R' (vF5 k5 p1 hR e2)];exact p5,p6⟩
theorem IX {x}:∀(l:List (Option Nat×Nat)) i,(l.filterMap (·.1)).Nodup→(∀R,x.1=some R→R∉l.filterMap (·.1))→
  ((l.set i x).filterMap (·.1)).Nodup∧∀y∈(l.set i x).filterMap (·.1),y∈l.filterMap (·.1)∨x.1=some y
 |[],_,h,_=>by simp
 |a::l,0,h,hx=>by
  grind
 |a::l,i+1,h,hx=>by
  simp only[List.set_cons_succ];cases ha:a.1 with
  |none=>
   rw[List.filterMap_cons_none ha] at h hx⊢;rw[List.filterMap_cons_none ha];exact IX l i h hx
  |some z=>
   rw[List.filterMap_cons_some ha] at h hx⊢;obtain⟨h1,h2⟩:=List.nodup_cons.1 h;obtain⟨k1,k2⟩:=IX l i h2 fun R hR hm=>hx R hR (by grind)
   grind
def zI.absorb (M:zI)(id jd:Nat)(o:Obj)(C:zZ)(H:Array Go.Obj):zI:={M with κ:=κset M.κ id C,h:=qW (qW M.h jd .gone) id o,H:=H}
theorem zI.absorb_ok {M}(ok:Ok M){id jd o oj o' C Cj C' H'}(bh:id≠jd)(ah:M.h id=some o)(aJ:o.owned=true)(hC:M.κ id=some C)
    (cM:M.h jd=some oj) (rW:oj.owned=true) (dO:M.κ jd=some Cj) (hle:C.le C') (nE:∀b∈C'.fp,b∈C.fp∨b∈Cj.fp) (dA:H'.size=M.H.size)
    (hH:∀b,b∉C.fp→H'[b]? =M.H[b]?) (cC:∀b,b<M.H.size→qP H' b=qP M.H b)
    (hO:yD M (M.absorb id jd o' C' H')→yP (M.absorb id jd o' C' H') o' C'):Ok (M.absorb id jd o' C' H')∧yS M (M.absorb id jd o' C' H'):=by
  have rU:∀b,M.F b→b∉C.fp:=fun b hF hb=>(ok.own b ⟨id,o,C,ah,aJ,hC,hb⟩).1 hF
  have x:yD M (M.absorb id jd o' C' H'):=
    { κ:=fun n D h=>by
        by_cases e:n=id
        · subst e;rw[hC] at h;cases h;exact⟨C',κset_same _ _ _,hle⟩
        · exact⟨D,by simp only[zI.absorb];rw[κset_ne _ _ e];exact h,D.le_refl⟩
      F:=fun _ h=>h
      G:=fun _ h=>h
      same:=fun b h=>hH b (rU b h)
      sameG:=fun b h=>hH b (rU b (ok.GF b h))
      bsz:=cC}
  have bD:∀b∈C'.fp,qJ M b:=fun b hb=>by
    rcases nE b hb with hb|hb
    · exact⟨id,o,C,ah,aJ,hC,hb⟩
    · exact⟨jd,oj,Cj,cM,rW,dO,hb⟩
  have dj:∀n q,n≠id→(M.absorb id jd o' C' H').h n=some q→q.owned=true→n≠jd∧M.h n=some q:=by
    intro n q e h1 h2;simp only[zI.absorb] at h1;rw[yI _ _ e] at h1;by_cases e':n=jd
    · subst e';rw[yG] at h1;cases h1;cases h2
    · rw[yI _ _ e'] at h1;simp_all
  have pg:∀b,qJ (M.absorb id jd o' C' H') b→qJ M b:=by
    rintro b ⟨n,q,D,h1,h2,h3,h4⟩
    by_cases e:n=id
    · subst e;simp only[zI.absorb,κset_same,Option.some.injEq] at h3;simp_all
    · obtain⟨e',eM⟩:=dj n q e h1 h2;simp only[zI.absorb] at h3;rw[κset_ne _ _ e] at h3;exact⟨n,q,D,eM,h2,h3,h4⟩
  refine⟨ok.build x (fun n=>n=id∨n=jd) (fun n hn=>?_) (fun n hn=>κset_ne _ _ (by grind)) ?_ ?_ (by simp only[zI.absorb];omega) ?_ ?_ ?_ ok.GF ?_,x,by simp only[zI.absorb];omega,?_,by grind,fun b h _=>.inl h,fun b h _=>.inl h⟩
  · simp only[zI.absorb];rw[yI _ _ (by grind),yI _ _ (by grind)]
  · intro n q D hn h1 h2 h3 b hb;exact hH b fun hc=>ok.disj n id q o D C b (by grind) h1 ah h2 aJ h3 hC hb hc
  · intro n q D hn h1 h2 h3 b hb;exact(ok.own b ⟨n,q,D,h1,h2,h3,hb⟩).1
  · rintro n q (rfl|rfl) h1
    · simp only[zI.absorb,yG,Option.some.injEq] at h1;subst h1;exact⟨C',κset_same _ _ _,hO x⟩
    · simp only[zI.absorb] at h1;rw[yI _ _ (Ne.symm bh),yG] at h1;cases h1;exact⟨Cj,by simp only[zI.absorb];rw[κset_ne _ _ (by grind)];omega,trivial⟩
  · rintro n (rfl|rfl) h1
    · simp only[zI.absorb,yG] at h1;cases h1
    · simp only[zI.absorb] at h1;rw[yI _ _ (by grind),yG] at h1;cases h1
  · rintro n q D b (rfl|rfl) h1 h2 h3 hb
    · simp only[zI.absorb,κset_same,Option.some.injEq] at h3;subst h3;have hbo:=ok.own b (bD b hb);refine⟨fun j qj Dj hj k1 k2 k3 k4=>?_,hbo.1,by simp only[zI.absorb];omega⟩;obtain⟨NV,y9⟩:=dj j qj hj k1 k2;simp only[zI.absorb] at k3;rw[κset_ne _ _ hj] at k3;rcases nE b hb with hb|hb
      · exact ok.disj j n qj o Dj C b hj y9 ah k2 aJ k3 hC k4 hb
      · exact ok.disj j jd qj oj Dj Cj b NV y9 cM k2 rW k3 dO k4 hb
    grind
  · intro b hb;have:=ok.Flt b hb;simp only[zI.absorb];omega
  · intro b hb hn;exact hH b fun hc=>hn ⟨id,o,C,ah,aJ,hC,hc⟩
theorem Ek {M t xs C}(h:yP M (.arr true t xs) C):C.rows=[]∧C.fp=C.blk.toList:=by
 have:=h.2.2.1 rfl;exact⟨this,by simp[zZ.fp,this]⟩
theorem NW {M}{ys:List Int}{C jd v}(hC:M.κ jd=some C)(hO:yP M (.arr true (.int .i64) ys) C)(hv:zQ M (.osl jd none) v):
  kk M.H C.blk ys.length v∧∀R,C.blk=some R→∃rv er,M.H[R]? =some (.cells rv er (0,0))∧∀j (h':j<ys.length),rv[j]? =some (.int .i64 ys[j]):=by
 obtain⟨h1,h2,h3,h4⟩:=hO;obtain⟨C',aw,A,c,rfl,h⟩:=hv;rw[hC] at aw;cases aw;cases hB:C.blk with
 |none=>
  rw[hB] at h;obtain⟨rfl,e,rfl⟩:=h;exact⟨⟨by rw[e],by omega⟩,by simp⟩
 |some B=>
  rw[hB] at h h4;obtain⟨hc,a,rfl,ha,hs⟩:=h;obtain⟨vals,e,h5,h6,h7,h8⟩:=h4;refine⟨⟨a,c,by rw[h1],by omega,by omega,by simpa[h2,Ty.size] using hs⟩,fun R hR=>?_⟩;cases hR;refine⟨vals,e,h5,fun j hj=>?_⟩;have:=h8 j hj
  simpa[qB,Ty.size] using this
theorem vEq {P M w}(ok:Ok M)(hM:M.H=w.heap){t id jd i ver xs}{ys:List Int}{B C rv}
  (ah:M.h id=some (.mat ver xs)) (hC:M.κ id=some C) (hB:C.blk=some B) (hi:i<C.len) (cM:M.h jd=some (.arr true (.int .i64) ys)) (hv:zQ M (.osl jd none) rv) (hn:1=P.cellsOf t):
  kt P (storeVar t ⟨B,i,none⟩ rv) M w [(jd,.gone),(id,.mat (ver+1) (xs.set i ys))]:=by
 obtain⟨C',aw,hO⟩:=ok.obj id _ ah;rw[hC] at aw;cases aw;obtain⟨Cj,dO,kW⟩:=ok.obj jd _ cM;obtain⟨jr,jf⟩:=Ek kW;have bh:id≠jd:=fun e=>by rw[e,cM] at ah;cases ah
 obtain⟨r1,r2⟩:=NW dO kW hv;obtain⟨k1,k2,k3,k4,k5,k6⟩:=hO;rw[hB] at k6;obtain⟨vals,e,k7,k8,k9⟩:=k6;have bD:w.heap[B]? =some (.cells vals e (0,0)):=by rw[←hM];exact k7
 have cc:=hv.one;have aA:rv.cells=#[rv]:=by cases rv<;>first|rfl|cases cc
 have aG:i+rv.cells.size≤vals.size:=by rw[aA];show i+1≤vals.size;omega
 have dm:i+rv.cells.toList.length≤vals.size:=by rw[Array.length_toList];exact aG
 have hr:=NL (P:=P) (t:=t) (off:=i) (rv:=rv) bD (by rw[aA];exact hn) (by omega) aG (by intro u hu;rw[aA] at hu;simp at hu;subst hu;exact cc);obtain⟨f1,f2,f3,f4⟩:=lP bD (new:=yK vals i rv.cells.toList) (eZ dm);have dE:∀R,Cj.blk=some R→R∉C.fp:=fun R hR hm=>ok.disj id jd _ _ C Cj R bh ah cM rfl rfl hC dO hm (jT hR)
 have df:=List.nodup_append.1 k5;obtain⟨s1,s2⟩:=IX (x:=(Cj.blk,ys.length)) C.rows i df.2.1 (fun R hR hm=>dE R hR (by simp only[zZ.fp,List.mem_append];exact .inr hm));let D:zZ:={C with ver:=ver+1,rows:=C.rows.set i (Cj.blk,ys.length)};have ux:∀b∈D.fp,b∈C.fp∨b∈Cj.fp:=fun b hb=>by
  simp only[zZ.fp,List.mem_append] at hb;rcases hb with hb|hb
  ·exact .inl (by simp only[zZ.fp,List.mem_append];exact .inl hb)
  ·rcases s2 b hb with hb|hb
   ·exact .inl (by simp only[zZ.fp,List.mem_append];exact .inr hb)
   ·exact .inr (jT hb)
 have uy:D.fp.Nodup:=by
  refine List.nodup_append.2 ⟨df.1,s1,fun a ha b hb e=>?_⟩;subst e;rcases s2 a hb with hb|hb
  ·exact df.2.2 a ha a hb rfl
  ·exact dE a hb (by simp only[zZ.fp,List.mem_append];exact .inl ha)
 have:=zI.absorb_ok (H':=(w.setRow B (yK vals i rv.cells.toList)).heap) (o':=.mat (ver+1) (xs.set i ys)) (C':=D) ok bh ah rfl hC cM rfl dO ⟨rfl,rfl,rfl,by show C.ver≤ver+1;omega,by grind⟩ ux
  (by rw [hM]; exact f1) (fun b pn => by rw [hM]; exact f3 b fun e => pn (e ▸ jT hB)) (fun b _ => by rw [hM]; exact f4 b) (fun x=>by
   refine⟨rfl,by rw[List.length_set];exact k2,k3,by simp only[D,List.length_set];exact k4,uy,?_⟩;have NX:D.blk=some B:=hB;rw[NX];refine⟨_,e,f2,by rw[List.length_set,eZ dm];exact k8,fun k hk=>?_⟩;rw[List.length_set] at hk;by_cases e2:k=i
   ·subst e2;simp only[List.getElem_set_self];refine⟨Cj.blk,rv,?_,?_,r1.ext x,fun R hR=>?_⟩
    ·simp only[D];rw[List.getElem?_set_self (by omega)]
    ·rw[wP dm,if_neg (by omega),if_pos (by rw[aA];show k<k+1;omega),aA];simp
    ·obtain⟨po,er,q5,q6⟩:=r2 R hR;refine⟨po,er,?_,q6⟩;have:R≠B:=fun e=>dE R hR (e▸jT hB)
     show(w.setRow B _).heap[R]? =_;rw[f3 R this,←hM];exact q5
   ·rw[List.getElem_set_ne (Ne.symm e2)];obtain⟨mA,v',p1,p2,p3,p4⟩:=k9 k hk;refine⟨mA,v',?_,?_,p3.ext x,fun R' uw=>?_⟩
    ·simp only[D];rw[List.getElem?_set_ne (Ne.symm e2)];exact p1
    ·rw[wP dm,aA];show(if k<i then vals[k]? else if k<i+1 then _ else vals[k]?)=_;split
     ·exact p2
     ·rw[if_neg (by omega)];exact p2
    ·subst uw;obtain⟨po,Ej,p5,p6⟩:=p4 R' rfl;refine⟨po,Ej,?_,p6⟩;have:R'≠B:=NT k5 p1 hB;show(w.setRow B _).heap[R']? =_;rw[f3 R' this,←hM];exact p5)
 exact⟨_,_,hr,rfl,rfl,rfl,rfl,rfl,this.1,this.2⟩
theorem vHx {P M w}(ok:Ok M)(hM:M.H=w.heap){t id jd ver n xs}{ys:List Int}{B C rv}
  (ah:M.h id=some (.pmat ver xs n)) (hC:M.κ id=some C) (hB:C.blk=some B) (hi:xs.length<C.len) (cM:M.h jd=some (.arr true (.int .i64) ys)) (hv:zQ M (.osl jd none) rv) (hn:1=P.cellsOf t):
  kt P (storeVar t ⟨B,xs.length,none⟩ rv) M w [(jd,.gone),(id,.pmat (ver+1) (xs++[ys]) n)]:=by
 obtain⟨C',aw,hO⟩:=ok.obj id _ ah;rw[hC] at aw;cases aw;obtain⟨Cj,dO,kW⟩:=ok.obj jd _ cM;obtain⟨jr,jf⟩:=Ek kW;have bh:id≠jd:=fun e=>by rw[e,cM] at ah;cases ah
 obtain⟨r1,r2⟩:=NW dO kW hv;obtain⟨k1,k2,k3,k4,k5,k0,k6⟩:=hO;rw[hB] at k6;obtain⟨vals,e,k7,k8,k9⟩:=k6;have bD:w.heap[B]? =some (.cells vals e (0,0)):=by rw[←hM];exact k7
 have cc:=hv.one;have aA:rv.cells=#[rv]:=by cases rv<;>first|rfl|cases cc
 have aG:xs.length+rv.cells.size≤vals.size:=by rw[aA];show xs.length+1≤vals.size;omega
 have dm:xs.length+rv.cells.toList.length≤vals.size:=by rw[Array.length_toList];exact aG
 have hr:=NL (P:=P) (t:=t) (off:=xs.length) (rv:=rv) bD (by rw[aA];exact hn) (by omega) aG (by intro u hu;rw[aA] at hu;simp at hu;subst hu;exact cc);obtain⟨f1,f2,f3,f4⟩:=lP bD (new:=yK vals xs.length rv.cells.toList) (eZ dm);have dE:∀R,Cj.blk=some R→R∉C.fp:=fun R hR hm=>ok.disj id jd _ _ C Cj R bh ah cM rfl rfl hC dO hm (jT hR)
 have df:=List.nodup_append.1 k5;have NY:(C.rows++[(Cj.blk,ys.length)]).filterMap (·.1)=C.rows.filterMap (·.1)++Cj.blk.toList:=by
  rw[List.filterMap_append];cases Cj.blk<;>simp
 have s1:((C.rows++[(Cj.blk,ys.length)]).filterMap (·.1)).Nodup:=by
  rw[NY];refine List.nodup_append.2 ⟨df.2.1,by cases Cj.blk<;>simp,fun x hx y hy e=>?_⟩;subst e;have:Cj.blk=some x:=by simpa using hy
  exact dE x this (by simp only[zZ.fp,List.mem_append];exact .inr hx)
 have s2:∀y∈(C.rows++[(Cj.blk,ys.length)]).filterMap (·.1),y∈C.rows.filterMap (·.1)∨Cj.blk=some y:=by simp
 let D:zZ:={C with ver:=ver+1,rows:=C.rows++[(Cj.blk,ys.length)]};have ux:∀b∈D.fp,b∈C.fp∨b∈Cj.fp:=fun b hb=>by
  simp only[zZ.fp,List.mem_append] at hb;rcases hb with hb|hb
  ·exact .inl (by simp only[zZ.fp,List.mem_append];exact .inl hb)
  ·rcases s2 b hb with hb|hb
   ·exact .inl (by simp only[zZ.fp,List.mem_append];exact .inr hb)
   ·exact .inr (jT hb)
 have uy:D.fp.Nodup:=by
  refine List.nodup_append.2 ⟨df.1,s1,fun a ha b hb e=>?_⟩;subst e;rcases s2 a hb with hb|hb
  ·exact df.2.2 a ha a hb rfl
  ·exact dE a hb (by simp only[zZ.fp,List.mem_append];exact .inl ha)
 have:=zI.absorb_ok (H':=(w.setRow B (yK vals xs.length rv.cells.toList)).heap) (o':=.pmat (ver+1) (xs++[ys]) n) (C':=D) ok bh ah rfl hC cM rfl dO ⟨rfl,rfl,rfl,by show C.ver≤ver+1;omega,fun e=>by have:ver+1=C.ver:=e;omega⟩ ux
  (by rw [hM]; exact f1) (fun b pn => by rw [hM]; exact f3 b fun e => pn (e ▸ jT hB)) (fun b _ => by rw [hM]; exact f4 b) (fun x=>by
   refine⟨rfl,k2,k3,by simp only[D,List.length_append,k4];rfl,uy,by simp;omega,?_⟩;have NX:D.blk=some B:=hB;rw[NX];refine⟨_,e,f2,by rw[eZ dm];exact k8,fun k hk=>?_⟩;rw[List.length_append,List.length_singleton] at hk;by_cases e2:k=xs.length
   ·subst e2;simp only[List.getElem_concat_length];refine⟨Cj.blk,rv,?_,?_,r1.ext x,fun R hR=>?_⟩
    ·simp only[D];rw[List.getElem?_append_right (by omega),k4];simp
    ·rw[wP dm,if_neg (by omega),if_pos (by rw[aA];show xs.length<xs.length+1;omega),aA];simp
    ·obtain⟨po,er,q5,q6⟩:=r2 R hR;refine⟨po,er,?_,q6⟩;have:R≠B:=fun e=>dE R hR (e▸jT hB)
     show(w.setRow B _).heap[R]? =_;rw[f3 R this,←hM];exact q5
   ·have IY:k<xs.length:=by omega
    rw[List.getElem_append_left IY];obtain⟨mA,v',p1,p2,p3,p4⟩:=k9 k IY;refine⟨mA,v',?_,?_,p3.ext x,fun R' uw=>?_⟩
    ·simp only[D];rw[List.getElem?_append_left (by omega)];exact p1
    ·rw[wP dm,aA];rw[if_pos IY];exact p2
    ·subst uw;obtain⟨po,Ej,p5,p6⟩:=p4 R' rfl;refine⟨po,Ej,?_,p6⟩;have:R'≠B:=NT k5 p1 hB;show(w.setRow B _).heap[R']? =_;rw[f3 R' this,←hM];exact p5)
 exact⟨_,_,hr,rfl,rfl,rfl,rfl,rfl,this.1,this.2⟩
theorem IZ h {n}:∀{u},(u.any fun p=>Nat.beq p.1 n)=false→qF h u n=h n
 |[],_=>rfl
 |(id,o)::u,hu=>by
  simp only[List.any_cons,Bool.or_eq_false_iff] at hu;have:n≠id:=fun e=>by simp_all
  show qF (qW h id o) u n=h n;rw[IZ (qW h id o) hu.2,yI _ _ this]
theorem vMa {P M w}(ok:Ok M)(hM:M.H=w.heap){t a v r u ra rv}(ha:zP M a ra)(hv:zP M v rv)
  (h:yE (yc P M.h t a v) r u):r=.undef∧kt P (Instr.storeAt t ra rv) M w u:=by
 unfold yc at h;split at h
 ·exact h.elim
 ·rename_i vs de;have cS:=IU de hv;cases hb:(Nat.beq vs.length (P.cellsOf t)&&Nat.blt 0 vs.length) with
  |false=>rw[hb] at h;exact h.elim
  |true=>
   rw[hb] at h;simp only[Bool.and_eq_true] at hb;have hn:=Nat.eq_of_beq_eq_true hb.1;have h0:=NP hb.2;split at h
   ·split at h
    ·rename_i cells ah;split at h
     ·rename_i bB hp;obtain⟨_,rfl,rfl⟩:=eY h;obtain⟨C,B,hC,hB,rfl⟩:=ha;have:=vPf (P:=P) ok hM (t:=t) ah hC hB cS hn h0 hp
      simpa[Instr.storeAt,kt,hY] using this
     ·exact h.elim
    ·exact h.elim
   ·rename_i id i off;split at h
    ·rename_i ty xs NZ u' ah za;split at h
     ·rename_i x hp;cases hu:(u'.any fun p=>Nat.beq p.1 id) with
      |true=>rw[hu] at h;exact h.elim
      |false=>
      rw[hu] at h;obtain⟨_,rfl,rfl⟩:=eY h;refine⟨rfl,?_⟩;obtain⟨M1,a1,a2,a3,a4,a5,a6,a7⟩:=NO ok (wF.refl _) cS za;obtain⟨C,B,hC,hB,hi,hra⟩:=zQ.ext (c:=.eptr id i off) a4.ext ha;have mB:M1.h id=some (.arr true ty xs):=by rw[a2,IZ M.h hu];exact ah
      have pq:=a5.length;have kX:=cS.length;obtain⟨w',M',b1,b2,b3,b4,b5,b6,b7,b8⟩:=vGj (P:=P) a3 (a1.trans hM) (t:=t) mB hC hB hi a5 (by omega) (by omega) hp;subst hra;exact⟨w',M',by simpa[Instr.storeAt,hY] using b1,b2,b3,b4,b5,by rw[b6,a2,iN],b7,a4.trans b8⟩
     ·exact h.elim
    ·exact h.elim
   ·split at h
    ·rename_i ver xs jd ah;split at h
     ·rename_i ys cM;obtain⟨_,rfl,rfl⟩:=eY h;obtain⟨C,B,hC,hB,hi,rfl⟩:=ha;have:=vEq (P:=P) ok hM (t:=t) ah hC hB hi cM hv (by cases de;exact hn)
      simpa[Instr.storeAt,kt,hY] using this
     ·exact h.elim
    ·rename_i ver xs n jd ah;split at h
     ·rename_i ys cM;obtain⟨Ei,rfl,rfl⟩:=eY h;obtain⟨C,B,hC,hB,hi,rfl⟩:=ha;have Ei:=Nat.eq_of_beq_eq_true Ei;subst Ei;have:=vHx (P:=P) ok hM (t:=t) ah hC hB hi cM hv (by cases de;exact hn)
      simpa[Instr.storeAt,kt,hY] using this
     ·exact h.elim
    ·exact h.elim
   ·rename_i id i j ver;split at h
    ·rename_i v' xs n ah;cases fS:Nat.beq v' ver with
     |false=>rw[fS] at h;exact h.elim
     |true=>
     rw[fS] at h;have e:=Nat.eq_of_beq_eq_true fS;subst e;obtain⟨_,rfl,rfl⟩:=eY h;obtain⟨C,hC,h1,hle,hm⟩:=ha;obtain⟨C',aw,hO⟩:=ok.obj _ _ ah;rw[hC] at aw;cases aw;obtain⟨R,rl,k1,k2,rfl⟩:=hm hO.1;have mC:rv=.int .i64 n:=hv;subst mC;have:=vBn (P:=P) ok hM (t:=t) (n:=n) ah hC k1 k2 (by cases de;exact hn)
     simpa[Instr.storeAt,kt,hY] using this
    ·exact h.elim
   ·exact h.elim
theorem jZ {c s v u}(h:yE (bif c then s else .stuck) v u):c=true∧yE s v u:=by
 cases c with
 |true=>simp_all
 |false=>exact h.elim
theorem I1 {c s v u}(h:yE (bif c then .stuck else s) v u):c=false∧yE s v u:=by
 cases c with
 |false=>simp_all
 |true=>exact h.elim
theorem I2 {a b:Nat}(h:Nat.beq a b=false):a≠b:=fun e=>by simp_all
theorem zb {i n}(h:zC i n=true):0≤i∧i<n∧i.toNat<n:=by
 simp[zC] at h;omega
theorem El {i mk}:∀{n j v u},IM (xZ i mk j n) v u→∃k,j≤k∧k<j+n∧i=(k:Int)∧v=.c (mk k)∧u=[]
 |n+1,j,v,u,h=>by
  rcases h with⟨h1,h2,h3⟩|⟨_,h⟩
  ·grind
  ·obtain⟨k,k1,k2,k3⟩:=El h;grind
theorem vMh {P M w}(ok:Ok M)(hM:M.H=w.heap){s a v f u ra}(ha:zP M a ra)
  (h:yE (Nm P s a f) v u):qH P (Instr.fieldAt s ra f) M w v u:=by
 unfold Nm at h;split at h
 ·rename_i fs hs;split at h
  ·rename_i fd hf;obtain⟨hz,h⟩:=I1 h;have hz:=I2 hz;obtain⟨i,hi⟩:=lM (P:=P) (t:=fd.type) (by omega);have hr:∀B o,(Instr.fieldAt s (.pointer (some ⟨B,o,none⟩)) f).run P w=.ok (.pointer (some ⟨B,o+fd.offset,none⟩)) w:=by
    simp[Instr.fieldAt,run_underlying hs,hf,hY,fieldPlace,fR w hi,hz,Addr.add_lit]
   split at h
   ·obtain⟨rfl,rfl⟩:=vQ h;obtain⟨C,B,hC,hB,rfl⟩:=ha;exact qH.pure ok hM (hr _ _) ⟨C,B,hC,hB,rfl⟩
   ·obtain⟨rfl,rfl⟩:=vQ h;obtain⟨C,B,hC,hB,hi,rfl⟩:=ha;exact qH.pure ok hM (hr _ _) ⟨C,B,hC,hB,hi,by grind⟩
   ·obtain⟨rfl,rfl⟩:=vQ h;obtain⟨B,o,rfl,hB,hE⟩:=ha;exact qH.pure ok hM (hr _ _) ⟨B,o,by grind,hB,hE⟩
   ·exact h.elim
  ·exact h.elim
 ·exact h.elim
theorem Em {P w t e A}{n c:Nat}{k}{i:Int}{B o}(hu:P.underlying t=some (.slice e))(h0:0≤i)(h1:i<n)(he:0<P.cellsOf e)
  (hA:A=some ⟨B,o,none⟩):(Instr.indexAt t (.slice A n c) (.int k i)).run P w=.ok (.pointer (some ⟨B,o+i.toNat*P.cellsOf e,none⟩)) w:=by
 obtain⟨x,hx⟩:=lM he;subst hA;simp[Instr.indexAt,asIntOf,run_underlying hu,h0,h1,fR w hx,Addr.add_lit]
theorem vNv {P M w}(ok:Ok M)(hM:M.H=w.heap){t x i v u rx ri}(hx:zP M x rx)(hi:zP M i ri)
  (h:yE (yd P M.h t x i) v u):qH P (Instr.indexAt t rx ri) M w v u:=by
 unfold yd at h;split at h
 ·rename_i e c k n hu;have kY:ri=.int k n:=hi;subst kY;split at h
  ·rename_i sh ty xs;obtain⟨hz,h⟩:=jZ h;have hz:=Nat.eq_of_beq_eq_true hz;obtain⟨hb,rfl,rfl⟩:=ko h;obtain⟨b0,b1,b2⟩:=zb hb;have mD:qB M.H (bif sh then M.G else M.F) (.sl ty) xs (fun _=>some rx):=hx;simp only[qB,Option.some.injEq] at mD;obtain⟨A,m,c,rfl,rfl,hc,mD⟩:=mD;rcases mD with⟨rfl,_⟩|⟨B,o,rfl,hB,hE⟩
   ·simp at b2
   ·refine qH.pure ok hM (Em hu b0 b1 (by rw[hz];exact ty.size_pos) rfl) ⟨B,o+n.toNat*P.cellsOf e,rfl,hB,?_⟩;have e1:xs.getD n.toNat ty.dflt=xs[n.toNat]:=by simp[List.getD,b2]
    rw[e1,hz];exact hE _ b2
  ·rename_i id r;split at h
   ·rename_i own ty xs ah;obtain⟨hz,h⟩:=jZ h;have hz:=Nat.eq_of_beq_eq_true hz;obtain⟨C,hC,hS⟩:=hx;obtain⟨C',aw,hO⟩:=ok.obj _ _ ah;rw[hC] at aw;cases aw;have hlen:=hO.1;have dA:=hO.2.1;have key:∀lo m,lo+m≤C.len→wG M.H C lo m rx→0≤n→n<(m:Int)→∃B,C.blk=some B∧(Instr.indexAt t rx (.int k n)).run P w=.ok (.pointer (some ⟨B,(lo+n.toNat)*C.sz+0,none⟩)) w:=by
     intro lo m hm lQ n0 n1;clear hS;obtain⟨A,c,rfl,hS⟩:=lQ;cases hB:C.blk with
     |none=>rw[hB] at hS;obtain⟨_,rfl,_⟩:=hS;omega
     |some B=>
      rw[hB] at hS;obtain⟨hc,a,hA,ha,_⟩:=hS;refine⟨B,rfl,?_⟩;rw[Em hu n0 n1 (by rw[hz];exact ty.size_pos) hA];have:a=lo*C.sz:=by rcases ha with ha|ha<;>omega
      rw[this,hz,dA,Nat.add_mul];rfl
    split at h
    ·obtain⟨hb,rfl,rfl⟩:=ko h;obtain⟨b0,b1,b2⟩:=zb hb;obtain⟨B,hB,hr⟩:=key 0 C.len (by omega) hS b0 (by omega);rw[Nat.zero_add] at hr;exact qH.pure ok hM hr ⟨C,B,hC,hB,by omega,rfl⟩
    ·obtain⟨hb,rfl,rfl⟩:=ko h;obtain⟨b0,b1,b2⟩:=zb hb;obtain⟨B,hB,hr⟩:=key _ _ hS.1 hS.2.1 b0 b1;exact qH.pure ok hM hr ⟨C,B,hC,hB,by have:=hS.1;omega,rfl⟩
   ·rename_i ver xs ah;obtain⟨hz,h⟩:=jZ h;have hz:=Nat.eq_of_beq_eq_true hz;split at h
    ·obtain⟨hb,rfl,rfl⟩:=ko h;obtain⟨b0,b1,b2⟩:=zb hb;obtain⟨C,hC,hS⟩:=hx;obtain⟨C',aw,hO⟩:=ok.obj _ _ ah;rw[hC] at aw;cases aw;have hlen:=hO.2.1;obtain⟨A,c,rfl,hS⟩:=hS;cases hB:C.blk with
     |none=>rw[hB] at hS;obtain⟨_,h0,_⟩:=hS;omega
     |some B=>
      rw[hB] at hS;obtain⟨hc,a,hA,ha,_⟩:=hS;have:a=0:=by rcases ha with ha|ha<;>omega
      have hr:=Em (P:=P) (w:=w) (c:=c) (k:=k) hu b0 (show n<(C.len:Int) by omega) (by omega) hA;rw[this,hz,Nat.zero_add,Nat.mul_one] at hr;exact qH.pure ok hM hr ⟨C,B,hC,hB,by omega,rfl⟩
    ·exact h.elim
   ·rename_i ver xs m ah;obtain⟨hz,h⟩:=jZ h;have hz:=Nat.eq_of_beq_eq_true hz;split at h
    ·obtain⟨hb,rfl,rfl⟩:=ko h;obtain⟨b0,b1,b2⟩:=zb hb;obtain⟨C,hC,hS⟩:=hx;obtain⟨C',aw,hO⟩:=ok.obj _ _ ah;rw[hC] at aw;cases aw;have hlen:=hO.2.1;obtain⟨A,c,rfl,hS⟩:=hS;cases hB:C.blk with
     |none=>rw[hB] at hS;obtain⟨_,h0,_⟩:=hS;omega
     |some B=>
      rw[hB] at hS;obtain⟨hc,a,hA,ha,_⟩:=hS;have:a=0:=by rcases ha with ha|ha<;>omega
      have hr:=Em (P:=P) (w:=w) (c:=c) (k:=k) hu b0 (show n<(C.len:Int) by omega) (by omega) hA;rw[this,hz,Nat.zero_add,Nat.mul_one] at hr;exact qH.pure ok hM hr ⟨C,B,hC,hB,by omega,rfl⟩
    ·exact h.elim
   ·exact h.elim
  ·rename_i id j ver;obtain⟨hz,h⟩:=jZ h;have hz:=Nat.eq_of_beq_eq_true hz;split at h
   ·rename_i v' xs ah;obtain⟨hv,h⟩:=jZ h;have hv:=Nat.eq_of_beq_eq_true hv;subst hv;obtain⟨hb,rfl,rfl⟩:=ko h;obtain⟨b0,b1,b2⟩:=zb hb;obtain⟨C,hC,h1,hle,hm⟩:=hx;obtain⟨C',aw,hO⟩:=ok.obj _ _ ah;rw[hC] at aw;cases aw;obtain⟨rb,rl,k1,k2⟩:=hm hO.1;have hj:j<xs.length:=by
     rw[←hO.2.2.2.1];rcases Nat.lt_or_ge j C.rows.length with h|h
     ·exact h
     ·rw[List.getElem?_eq_none h] at k1;cases k1
    obtain⟨B,mA,x',q0,qv,q1,q2,q3,q4⟩:=yx hO hj;rw[k1] at q1;cases q1;have e1:xs.getD j []=xs[j]:=by simp[List.getD,hj]
    rw[e1] at b1 b2;cases rb with
    |none=>obtain⟨_,h0⟩:=k2;omega
    |some R=>
     obtain⟨a,c,rfl,hc,ha,_⟩:=k2;have:a=0:=by rcases ha with ha|ha<;>omega
     subst this;have hr:=Em (P:=P) (w:=w) (c:=c) (k:=k) (A:=some ⟨R,0,none⟩) hu b0 b1 (by omega) rfl;rw[hz,Nat.zero_add,Nat.mul_one] at hr;exact qH.pure ok hM hr ⟨C,hC,rfl,hle,by grind⟩
   ·exact h.elim
  ·exact h.elim
 ·rename_i m e id off k n hu;have kY:ri=.int k n:=hi;subst kY;obtain⟨hz,h⟩:=I1 h;have hz:=I2 hz;obtain⟨j,j1,j2,rfl,rfl,rfl⟩:=El h;obtain⟨C,B,hC,hB,rfl⟩:=hx;obtain⟨y,hy⟩:=lM (P:=P) (t:=e) (by omega);refine qH.pure ok hM (rv:=.pointer (some ⟨B,off+j*P.cellsOf e,none⟩)) ?_ ⟨C,B,hC,hB,rfl⟩;have:(j:Int)<m:=by omega
  have h':¬m≤j:=by omega
  simp[Instr.indexAt,asIntOf,run_underlying hu,hY,this,h',fR w hy,Addr.add_lit]
 ·rename_i m e id q off k n hu;have kY:ri=.int k n:=hi;subst kY;obtain⟨hz,h⟩:=I1 h;have hz:=I2 hz;obtain⟨j,j1,j2,rfl,rfl,rfl⟩:=El h;obtain⟨C,B,hC,hB,hq,rfl⟩:=hx;obtain⟨y,hy⟩:=lM (P:=P) (t:=e) (by omega);refine qH.pure ok hM (rv:=.pointer (some ⟨B,_+j*P.cellsOf e,none⟩)) ?_ ⟨C,B,hC,hB,hq,by rw[Nat.add_assoc]⟩;have:(j:Int)<m:=by omega
  have h':¬m≤j:=by omega
  simp[Instr.indexAt,asIntOf,run_underlying hu,hY,this,h',fR w hy,Addr.add_lit]
 ·rename_i m e sh t x off k n hu;have kY:ri=.int k n:=hi;subst kY;obtain⟨hz,h⟩:=I1 h;have hz:=I2 hz;obtain⟨j,j1,j2,rfl,rfl,rfl⟩:=El h;obtain⟨B,o,rfl,hB,hE⟩:=hx;obtain⟨y,hy⟩:=lM (P:=P) (t:=e) (by omega);refine qH.pure ok hM (rv:=.pointer (some ⟨B,_+j*P.cellsOf e,none⟩)) ?_ ⟨B,o,by rw[Nat.add_assoc],hB,hE⟩;have:(j:Int)<m:=by omega
  have h':¬m≤j:=by omega
  simp[Instr.indexAt,asIntOf,run_underlying hu,hY,this,h',fR w hy,Addr.add_lit]
 ·exact h.elim
theorem YH {M cs}{us:Array Value}{off n vs}(h:zK (zQ M) cs us.toList)(hc:kh cs off n=some vs):zK (zQ M) vs (us.extract off (off+n)).toList:=by
 obtain⟨h1,rfl,h2⟩:=Eg hc;have:=(h.drop off).take n;simp_all
theorem YI {P M w t cs us off vs v}(h:zK (zQ M) cs us.toList)
  (hc:kh cs off (P.cellsOf t)=some vs) (hp:nz (wU P t) vs=some v):∃rv,(part t us off).run P w=.ok rv w∧zP M v rv:=by
 have bb:=YH h hc;obtain⟨h1,h2,h3⟩:=Eg hc;have hl:=h.length;rcases NH hp with⟨dC,rfl⟩|⟨dC,c,rfl,rfl⟩
 ·obtain⟨⟨d,hd⟩,hr⟩:=ph (P:=P) w dC;obtain⟨i,hi⟩:=IN hd;exact⟨.agg (us.extract off (off+P.cellsOf t)),by simp[part,hr,fR w hi],_,rfl,bb⟩
 ·obtain⟨⟨d,hd⟩,hr⟩:=ph (P:=P) w dC;simp  at h3;have bn:off<us.size:=by grind
  have N0:off<cs.length:=by omega
  refine⟨us[off],by simp[part,hr,bn],?_⟩;have e:cs[off]=c:=by
   have:=congrArg (·[0]?) h2;grind
  have:=h.get off N0 (by omega);show zQ M c us[off];simp_all
theorem vJy {P M w}(ok:Ok M)(hM:M.H=w.heap){s x v f u rx}(hx:zP M x rx)
  (h:yE (No P s x f) v u):qH P (Instr.field s rx f) M w v u:=by
 unfold No at h;split at h
 ·rename_i fs cs hs;split at h
  ·rename_i fd hf;split at h
   ·rename_i vs hc;obtain⟨h',rfl⟩:=ND h;obtain⟨us,rfl,lO⟩:=hx;obtain⟨rv,hr,hv⟩:=YI (P:=P) (w:=w) lO hc h';exact qH.pure ok hM (by simp[Instr.field,run_underlying hs,hf,asAgg,hr]) hv
   ·exact h.elim
  ·exact h.elim
 ·exact h.elim
theorem vN9 {P M w}(ok:Ok M)(hM:M.H=w.heap){t x i v u rx ri}(hx:zP M x rx)(hi:zP M i ri)
  (h:yE (Nn P t x i) v u):qH P (Instr.index t rx ri) M w v u:=by
 unfold Nn at h;split at h
 ·rename_i m e cs k n hu;have kY:ri=.int k n:=hi;subst kY;obtain⟨hc,h⟩:=jZ h;simp only[Bool.and_eq_true] at hc;obtain⟨⟨c1,c2⟩,c3⟩:=hc;have c1:=Nat.eq_of_beq_eq_true c1;have c3:=Nat.eq_of_beq_eq_true c3;obtain⟨j,j1,j2,rfl,rfl,rfl⟩:=El h;obtain⟨us,rfl,lO⟩:=hx;have dC:wU P e=some false:=by
   grind
  have hj:j<cs.length:=by omega
  have dU:kh cs j (P.cellsOf e)=some [cs[j]]:=by
   unfold kh;have:Nat.ble (j+P.cellsOf e) cs.length=true:=Nat.ble_eq_true_of_le (by omega);rw[this,c1];simp[List.take_one]
  obtain⟨rv,hr,hv⟩:=YI (P:=P) (w:=w) lO dU (v:=.c cs[j]) (by rw[dC];rfl);obtain⟨y,hy⟩:=lM (P:=P) (t:=e) (by omega);have hjm:(j:Int)<m:=by omega
  refine qH.pure ok hM (rv:=rv) ?_ ?_
  ·have h':¬m≤j:=by omega
   simp[Instr.index,asIntOf,run_underlying hu,h',fR w hy,c1,hr]
  simp_all
 ·exact h.elim
theorem N1 a b:gX a b=(a==b):=by cases a<;>cases b<;>rfl
theorem vKy {P M w}(ok:Ok M)(hM:M.H=w.heap){op k x y xt v u}(hs:op≠.shl∧op≠.shr)
  (h:yE (Yd op k x y) v u):qH P (binOp op xt (.int k x) (.int k y)) M w v u:=by
 cases op with
 |shl=>simp_all
 |shr=>simp_all
 |quo=>
  obtain⟨h1,rfl,rfl⟩:=ko h;simp  at h1;exact qH.pure ok hM (rv:=.int k (k.wrap (x.tdiv y))) (by simp[binOp,Op.intDiv,h1]) rfl
 |rem=>
  obtain⟨h1,rfl,rfl⟩:=ko h;simp[Bool.not_eq_true'] at h1;exact qH.pure ok hM (rv:=.int k (x.tmod y)) (by simp[binOp,Op.intDiv,h1]) rfl
 |neq=>
  obtain⟨rfl,rfl⟩:=vQ h;exact qH.pure ok hM (rv:=.bool (!decide (x=y))) (by simp[binOp,Op.intCmp,bne,BEq.beq]) rfl
 |eql=>
  obtain⟨rfl,rfl⟩:=vQ h;exact qH.pure ok hM (rv:=.bool (decide (x=y))) (by simp[binOp,Op.intCmp,BEq.beq]) rfl
 |_=>
  obtain⟨rfl,rfl⟩:=vQ h;exact qH.pure ok hM (rv:=_) (by simp[binOp];rfl) rfl
theorem YJ {P M w}(ok:Ok M)(hM:M.H=w.heap){op k j x y xt v u}(hs:op=.shl∨op=.shr)
  (h:yE (Ye op k x y) v u):qH P (binOp op xt (.int k x) (.int j y)) M w v u:=by
 rcases hs with rfl|rfl
 ·obtain⟨h1,rfl,rfl⟩:=ko h;simp only[Bool.not_eq_true',decide_eq_false_iff_not] at h1;exact qH.pure ok hM (rv:=.int k (k.wrap (x*2^(min y.toNat k.bits)))) (by simp only[binOp,Op.shift,h1,if_false];rfl) rfl
 ·obtain⟨h1,rfl,rfl⟩:=ko h;simp only[Bool.not_eq_true',decide_eq_false_iff_not] at h1;exact qH.pure ok hM (rv:=.int k (x.fdiv (2^(min y.toNat k.bits)))) (by simp only[binOp,Op.shift,h1];rfl) rfl
def En (P:Program)(eqT:TypeId→Bool):Prop:=∀t,eqT t=true→∀(M:zI) (xs ys:List zT) (us vs:Array Value) (r:Bool) (w:World),Iq P t xs ys=some r→
 zK (zQ M) xs us.toList→zK (zQ M) ys vs.toList→P.eqGuardType P.depth t=false∧(Op.equal t (.agg us) (.agg vs)).run P w=.ok r w
def uz:zT→zT→Option Bool
 |.int j a,.int k b=>bif jY j k then some (decide (a=b)) else none
 |.bool a,.bool b=>some (gX a b)
 |_,_=>none
theorem vGh {x y xs ys r}(h:eK (x::xs) (y::ys)=some r):∃b r',uz x y=some b∧eK xs ys=some r'∧r=(b&&r'):=by
 have Eo:(match uz x y,eK xs ys with|some b,some r'=>some (b&&r')|_,_=>none)=some r→∃b r',uz x y=some b∧eK xs ys=some r'∧r=(b&&r'):=by
  grind
 apply Eo;rw[←h]
 match x,y with
 |.int j a,.int k b=>
  cases hk:jY j k<;>cases xs<;>cases ys<;>simp only[eK,uz,hk,cond_true]<;>first|grind|rfl
 |.bool a,.bool b=>
  cases xs<;>cases ys<;>simp only[eK,uz]<;>first|grind|rfl
 |.int _ _,.str _|.int _ _,.undef|.int _ _,.bool _|.int _ _,.fsl _ _ _|.int _ _,.nfl _ _ _|.int _ _,.nsl|.int _ _,.osl _ _|.int _ _,.bsl _ _ _|.int _ _,.ptr _ _|.int _ _,.eptr _ _ _|.int _ _,.fptr _ _ _ _|.int _ _,.mrow _ _ _|.int _ _,.mptr _ _|.int _ _,.meptr _ _ _ _|.int _ _,.nilp|.int _ _,.nilf|.int _ _,.nilm|.int _ _,.fn _ _|.int _ _,.map _
 |.bool _,.str _|.bool _,.undef|.bool _,.int _ _|.bool _,.fsl _ _ _|.bool _,.nfl _ _ _|.bool _,.nsl|.bool _,.osl _ _|.bool _,.bsl _ _ _|.bool _,.ptr _ _|.bool _,.eptr _ _ _|.bool _,.fptr _ _ _ _|.bool _,.mrow _ _ _|.bool _,.mptr _ _|.bool _,.meptr _ _ _ _|.bool _,.nilp|.bool _,.nilf|.bool _,.nilm|.bool _,.fn _ _|.bool _,.map _=>cases xs<;>cases ys<;>cases h
def N2 (b:Bool)(us:List Value):Value:=bif b then .agg us.toArray else us.getD 0 (.bool false)
theorem zc {P:Program}:∀{a r xs},eX (a++r) xs=true→eX a (xs.take a.length)=true∧eX r (xs.drop a.length)=true∧(xs.take a.length).length=a.length
 |[],r,xs,h=>⟨rfl,h,rfl⟩
 |k::a,r,xs,h=>by
  match k,xs,h with
  |some k,.int j n::xs,h=>
   have h':(jY j k&&eX (a++r) xs)=true:=h;rw[Bool.and_eq_true] at h';obtain⟨h1,h2,h3⟩:=zc (P:=P) h'.2;refine⟨?_,h2,by simp[h3]⟩;show(jY j k&&eX a (xs.take a.length))=true;simp_all
  |none,.bool b::xs,h=>
   have h':eX (a++r) xs=true:=h;obtain⟨h1,h2,h3⟩:=zc (P:=P) h';exact⟨h1,h2,by simp[h3]⟩
theorem N3:∀{a b c d r},a.length=b.length→eK (a++c) (b++d)=some r→∃r1 r2,eK a b=some r1∧eK c d=some r2∧r=(r1&&r2)
 |[],[],c,d,r,_,h=>⟨true,r,rfl,h,rfl⟩
 |x::a,y::b,c,d,r,hl,h=>by
  obtain⟨e,r',h1,h2,rfl⟩:=vGh h;obtain⟨r1,r2,h3,h4,rfl⟩:=N3 (by simp_all) h2;refine⟨e&&r1,r2,?_,h4,by grind⟩;have mk:∀{x y:zT} {xs ys:List zT} {b r':Bool},uz x y=some b→eK xs ys=some r'→xs.length=ys.length→eK (x::xs) (y::ys)=some (b&&r'):=by
   intro x y xs ys b r' h1 h2 hl;cases x<;>cases y<;>first|(cases h1;done)|skip
   ·rename_i j m k n;simp[uz] at h1;cases hk:jY j k with
    |false=>simp_all
    |true=>
     rw[hk] at h1;cases h1;cases xs<;>cases ys
     ·cases h2;simp[eK,hk]
     ·cases hl
     ·cases hl
     ·simp[eK,hk,h2]
   ·cases h1;cases xs<;>cases ys
    ·cases h2;simp[eK]
    ·cases hl
    ·cases hl
    ·simp[eK,h2]
  grind
def N4 (P:Program)(dd:Nat)(t:TypeId)(ks:List (Option IntKind)):Prop:=∃b,wU P t=some b∧(b=false→ks.length=1)∧∀(M:zI) (w:World) (us vs:List Value) (xs ys:List zT) (r:Bool),
 eX ks xs=true→eX ks ys=true→eK xs ys=some r→zK (zQ M) xs us→zK (zQ M) ys vs→(Op.equalIn dd t (N2 b us) (N2 b vs)).run P w=.ok r w
theorem nH:∀{ks xs},eX ks xs=true→xs.length=ks.length
 |[],[],_=>rfl
 |some k::ks,.int j n::xs,h=>by
  have h':(jY j k&&eX ks xs)=true:=h;rw[Bool.and_eq_true] at h';simp[nH h'.2]
 |none::ks,.bool b::xs,h=>by
  have h':eX ks xs=true:=h;simp[nH h']
theorem I3 {P t b}(ht:wU P t=some b){us off w}(hn:off+P.cellsOf t≤us.size)(h1:b=false→P.cellsOf t=1)(h0:∃i,P.info? t=some i):
  (part t us off).run P w=.ok (N2 b ((us.toList.drop off).take (P.cellsOf t))) w:=by
 obtain⟨⟨d,hd⟩,hr⟩:=ph (P:=P) w ht;cases b with
 |true=>
  obtain⟨i,hi⟩:=h0;simp[part,hr,fR w hi]
  congr 2
  grind
 |false=>
  have h1:=h1 rfl;have bn:off<us.size:=by omega
  have e:us[off]? =some us[off]:=by simp
  have e2:(us.toList.drop off).take 1=[us[off]]:=by
   rw[List.drop_eq_getElem_cons (by omega)];simp
  simp[part,hr,e,h1,e2];rfl
theorem YK {P dd M w us vs rec}:∀fs i ks xs ys r,(∀f∈fs,∀a,rec f.type=some a→N4 P dd f.type a)→
  Ip P rec i fs=some ks→eX ks xs=true→eX ks ys=true→eK xs ys=some r→zK (zQ M) xs (us.toList.drop i)→zK (zQ M) ys (vs.toList.drop i)→(Op.eqFields dd us vs fs).run P w=.ok r w
 |[],i,ks,xs,ys,r,_,hk,hx,hy,he,hu,hv=>by
  cases hk;cases xs with
  |cons _ _=>cases hx
  |nil=>cases ys with
   |cons _ _=>cases hy
   |nil=>cases he;rfl
 |f::fs,i,ks,xs,ys,r,bb,hk,hx,hy,he,hu,hv=>by
  unfold Ip at hk;cases hc:(Nat.beq f.offset i&& !(f.name== "_")) with
  |false=>rw[hc] at hk;cases hk
  |true=>
   rw[hc] at hk;rw[Bool.and_eq_true] at hc;have ho:f.offset=i:=by simpa using hc.1
   have hn:f.name≠ "_" :=by simpa using hc.2
   dsimp only[cond_true] at hk;split at hk
   ·rename_i a r0 ha pt;cases hl:(Nat.beq a.length (P.cellsOf f.type)&&Nat.blt 0 a.length) with
    |false=>rw[hl] at hk;cases hk
    |true=>
     rw[hl] at hk;cases hk;rw[Bool.and_eq_true] at hl;have I4:0<a.length:=by have:=hl.2;simp[Nat.blt] at this;omega
     have hl:=Nat.eq_of_beq_eq_true hl.1;obtain⟨b,hb,gD,hE⟩:=bb f (List.mem_cons_self ..) a ha;obtain⟨x1,x2,x3⟩:=zc (P:=P) hx;obtain⟨y1,y2,y3⟩:=zc (P:=P) hy;have ex:xs=xs.take a.length++xs.drop a.length:=(List.take_append_drop _ _).symm;have ey:ys=ys.take a.length++ys.drop a.length:=(List.take_append_drop _ _).symm;rw[ex,ey] at he;obtain⟨r1,r2,e1,e2,rfl⟩:=N3 (by rw[x3,y3]) he;have zd:=hu.length;have N5:=hv.length;have uA:=nH hx;have uB:=nH hy;rw[List.length_append] at uA uB;have uC:=hu.take a.length;have kZ:=hv.take a.length;have uD:=hu.drop a.length;have mC:=hv.drop a.length;rw[List.drop_drop] at uD mC;have h0:∃i,P.info? f.type=some i:=by
      obtain⟨⟨d,hd⟩,_⟩:=ph (P:=P) w hb;exact IN hd
     have step:=hE M w _ _ _ _ r1 x1 y1 e1 uC kZ;rw[hl] at uD mC;have ih:=YK (w:=w) fs (i+P.cellsOf f.type) r0 _ _ r2 (fun g hg=>bb g (List.mem_cons_of_mem _ hg)) pt x2 y2 e2 (by rw[hl];exact uD) (by rw[hl];exact mC);have bu:i+P.cellsOf f.type≤us.size:=by simp at zd;omega
     have bv:i+P.cellsOf f.type≤vs.size:=by simp at N5;omega
     have p1:=I3 (w:=w) hb bu (by grind) h0;have p2:=I3 (w:=w) hb bv (fun e=>by have:=gD e;omega) h0;rw[hl] at step;unfold Op.eqFields;rw[if_pos hn,ho];simp only[Sem.run_bind,p1,p2,Result.andThen_ok,step];cases r1 with
     |true=>grind
     |false=>simp
   ·cases hk
theorem YL {P dd M w us vs e a}(hE:N4 P dd e a)(hl:a.length=P.cellsOf e)(I4:0<a.length):∀c j xs ys r,
  eX (uh c a) xs=true→eX (uh c a) ys=true→eK xs ys=some r→zK (zQ M) xs (us.toList.drop (j*P.cellsOf e))→zK (zQ M) ys (vs.toList.drop (j*P.cellsOf e))→(Op.eqItems dd e (P.cellsOf e) us vs (List.range' j c)).run P w=.ok r w
 |0,j,xs,ys,r,hx,hy,he,hu,hv=>by
  cases xs with
  |cons _ _=>cases hx
  |nil=>cases ys with
   |cons _ _=>cases hy
   |nil=>cases he;rfl
 |c+1,j,xs,ys,r,hx,hy,he,hu,hv=>by
  obtain⟨b,hb,gD,IW⟩:=id hE;obtain⟨x1,x2,x3⟩:=zc (P:=P) hx;obtain⟨y1,y2,y3⟩:=zc (P:=P) hy;have ex:xs=xs.take a.length++xs.drop a.length:=(List.take_append_drop _ _).symm;have ey:ys=ys.take a.length++ys.drop a.length:=(List.take_append_drop _ _).symm;rw[ex,ey] at he;obtain⟨r1,r2,e1,e2,rfl⟩:=N3 (by rw[x3,y3]) he;have zd:=hu.length;have N5:=hv.length;have uA:=nH hx;have uB:=nH hy;have rY:(uh (c+1) a).length=a.length+(uh c a).length:=by show(a++uh c a).length=_;rw[List.length_append]
  rw[rY] at uA uB;have uC:=hu.take a.length;have kZ:=hv.take a.length;have uD:=hu.drop a.length;have mC:=hv.drop a.length;rw[List.drop_drop] at uD mC;have h0:∃i,P.info? e=some i:=by
   obtain⟨⟨d,hd⟩,_⟩:=ph (P:=P) w hb;exact IN hd
  have step:=IW M w _ _ _ _ r1 x1 y1 e1 uC kZ;have ej:j*P.cellsOf e+a.length=(j+1)*P.cellsOf e:=by rw[Nat.add_mul];omega
  rw[ej] at uD mC;have ih:=YL (w:=w) hE hl I4 c (j+1) _ _ r2 x2 y2 e2 uD mC;have bu:j*P.cellsOf e+P.cellsOf e≤us.size:=by simp at zd;omega
  have bv:j*P.cellsOf e+P.cellsOf e≤vs.size:=by simp at N5;omega
  have p1:=I3 (w:=w) hb bu (by grind) h0;have p2:=I3 (w:=w) hb bv (fun e=>by have:=gD e;omega) h0;rw[hl] at step;rw[show List.range' j (c+1)=j::List.range' (j+1) c from rfl];simp only[Op.eqItems,Sem.run_bind,p1,p2,Result.andThen_ok,step];cases r1 with
  |true=>grind
  |false=>simp
theorem N6 {P} d:∀m t ks,P.keyTypeAt m t=true→xV P m t=some ks→N4 P (d+m) t ks
 |0,_,_,h,_=>by simp[Program.keyTypeAt] at h
 |m+1,t,ks,hk,h=>by
  unfold Program.keyTypeAt at hk;unfold xV at h;split at h
  ·rename_i k hu;cases h;refine⟨false,by unfold wU;rw[hu],fun _=>rfl,fun M w us vs xs ys r hx hy he nI fS=>?_⟩;have uA:=nH hx;have uB:=nH hy
   match xs,ys,us,vs,hx,hy,nI,fS,uA,uB with
   |[.int j a],[.int j' c],[u],[v],hx,hy,⟨uC,_⟩,⟨kZ,_⟩,_,_=>
    have e1:u=.int j a:=uC;have e2:v=.int j' c:=kZ;subst e1;subst e2;simp only[eK] at he;cases hk:jY j j' with
    |false=>rw[hk] at he;cases he
    |true=>
     rw[hk] at he;cases he;rw[←oV hk];exact run_equalIn_int (P:=P) w (d+m) t j k a c hu
  ·rename_i hu;cases h;refine⟨false,by unfold wU;rw[hu],fun _=>rfl,fun M w us vs xs ys r hx hy he nI fS=>?_⟩;have uA:=nH hx;have uB:=nH hy
   match xs,ys,us,vs,hx,hy,nI,fS,uA,uB with
   |[.bool a],[.bool c],[u],[v],hx,hy,⟨uC,_⟩,⟨kZ,_⟩,_,_=>
    have e1:u=.bool a:=uC;have e2:v=.bool c:=kZ;subst e1;subst e2;cases he;show(Op.equalIn (d+m+1) t (.bool a) (.bool c)).run P w=_;rw[run_equalIn_bool' (P:=P) w (d+m) t a c hu,N1]
  ·rename_i fs hu;simp only[hu,Bool.and_eq_true,Bool.not_eq_true'] at hk;refine⟨true,by unfold wU;rw[hu],by simp,fun M w us vs xs ys r hx hy he nI fS=>?_⟩;have hf:P.fieldsOf t=fs:=by unfold Program.fieldsOf;rw[hu]
   have:=run_equalIn_struct (P:=P) w (d+m) t us.toArray vs.toArray (by rw[hf];exact hu) hk.2;rw[hf] at this;refine this.trans (YK (rec:=xV P m) _ 0 ks xs ys r (fun f hf a ha=>?_) h hx hy he (by simpa using nI) (by simpa using fS));have YM:=Array.all_eq_true_iff_forall_mem.1 hk.1.1 f (by grind);simp only[Bool.and_eq_true,bne_iff_ne,ne_eq] at YM;exact N6 d m f.type a YM.2 ha
  ·rename_i n e hu;simp only[hu] at hk;split at h
   ·rename_i a ha;cases hl:(Nat.beq a.length (P.cellsOf e)&&Nat.blt 0 a.length) with
    |false=>rw[hl] at h;cases h
    |true=>
     rw[hl] at h;cases h;rw[Bool.and_eq_true] at hl;have I4:0<a.length:=by have:=hl.2;simp[Nat.blt] at this;omega
     have hl:=Nat.eq_of_beq_eq_true hl.1;refine⟨true,by unfold wU;rw[hu],(by simp),fun M w us vs xs ys r hx hy he nI fS=>?_⟩;obtain⟨i,hi⟩:=lM (P:=P) (t:=e) (by omega);have:=run_equalIn_array (P:=P) w (d+m) us.toArray vs.toArray hu hi;refine this.trans ?_;rw[List.range_eq_range'];exact YL (N6 d m e a hk ha) hl I4 n 0 xs ys r hx hy he (by simpa using nI) (by simpa using fS)
   ·cases h
  ·cases h
theorem Ep {P eqT}(h:∀t,eqT t=true→(P.keyTypeAt 8 t&& !P.eqGuardType P.depth t)=true):En P eqT:=by
 intro t ht M xs ys us vs r w he hu hv;have h:=h t ht;simp  at h;refine⟨h.2,?_⟩;unfold Iq at he;split at he
 ·rename_i ks hk;unfold Yf at hk;split at hk
  ·cases hc:(eX ks xs&&eX ks ys) with
   |false=>simp_all
   |true=>
    rw[hc] at he;rw[Bool.and_eq_true] at hc;obtain⟨b,hb,_,hE⟩:=N6 (P:=P) 9992 8 t ks h.1 hk;have:b=true:=by
     unfold wU at hb;simp_all
    subst this;exact hE M w us.toList vs.toList xs ys r hc.1 hc.2 he hu hv
  ·cases hk
 ·cases he
theorem YN {P t}(h:Is P t=true):P.underlying t=some .bool:=by
 unfold Is at h;grind
theorem vH9 {P eqT}(heq:En P eqT){M w}(ok:Ok M)(hM:M.H=w.heap){op xt ox oy x y v u rx ry}
  (hx:zP M x rx) (hy:zP M y ry) (h:yE (Nk P eqT op xt ox oy x y) v u):qH P (do eqGuard op xt ox oy rx ry;binOp op xt rx ry) M w v u:=by
 have quiet:∀{k j:IntKind} {a b:Int},(eqGuard op xt ox oy (.int k a) (.int j b)).run P w=.ok () w:=by
  unfold eqGuard;simp
 have step:∀{a b:Value},(eqGuard op xt ox oy a b).run P w=.ok () w→qH P (binOp op xt a b) M w v u→qH P (do eqGuard op xt ox oy a b;binOp op xt a b) M w v u:=by
  rintro a b hg ⟨rv,w',M',h1,h2⟩
  exact⟨rv,w',M',by simp_all,h2⟩
 unfold Nk at h;split at h
 ·have e1:rx=_:=hx;have e2:ry=_:=hy;subst e1;subst e2;exact step quiet (YJ ok hM (.inl rfl) h)
 ·have e1:rx=_:=hx;have e2:ry=_:=hy;subst e1;subst e2;exact step quiet (YJ ok hM (.inr rfl) h)
 ·obtain⟨hk,h2⟩:=jZ h;have hk:=oV hk;subst hk;have e1:rx=_:=hx;have e2:ry=_:=hy;subst e1;subst e2;exact step quiet (vKy ok hM (by grind) h2)
 ·rename_i a b;have e1:rx=_:=hx;have e2:ry=_:=hy;subst e1;subst e2;obtain⟨hb,h2⟩:=jZ h;obtain⟨rfl,rfl⟩:=vQ h2;have hr:=run_equalIn_bool' (P:=P) w 9999 xt a b (YN hb);refine qH.pure ok hM (rv:=.bool (gX a b)) ?_ rfl;have rZ:(Op.equal xt (.bool a) (.bool b)).run P w=.ok (a==b) w:=hr;have hg:(eqGuard .eql xt ox oy (.bool a) (.bool b)).run P w=.ok () w:=by rfl
  simp only[Sem.run_bind,hg,Result.andThen_ok,binOp,rZ,Sem.run_pure,N1]
 ·rename_i a b;have e1:rx=_:=hx;have e2:ry=_:=hy;subst e1;subst e2;obtain⟨hb,h2⟩:=jZ h;obtain⟨rfl,rfl⟩:=vQ h2;have hr:=run_equalIn_bool' (P:=P) w 9999 xt a b (YN hb);refine qH.pure ok hM (rv:=.bool (!gX a b)) ?_ rfl;have rZ:(Op.equal xt (.bool a) (.bool b)).run P w=.ok (a==b) w:=hr;have hg:(eqGuard .neq xt ox oy (.bool a) (.bool b)).run P w=.ok () w:=by rfl
  simp only[Sem.run_bind,hg,Result.andThen_ok,binOp,rZ,Sem.run_pure,N1]
 ·rename_i a b;have e1:rx=_:=hx;have e2:ry=_:=hy;subst e1;subst e2;obtain⟨rfl,rfl⟩:=vQ h;have hg:(eqGuard .eql xt ox oy (.string ⟨(lK a).toArray⟩) (.string ⟨(lK b).toArray⟩)).run P w=.ok () w:=by rfl
  refine qH.pure ok hM (rv:=.bool (Ir a b)) ?_ rfl;simp only[hg,binOp_string_eql,ByteArray.toList_eq];rfl
 ·rename_i a b;have e1:rx=_:=hx;have e2:ry=_:=hy;subst e1;subst e2;obtain⟨rfl,rfl⟩:=vQ h;have hg:(eqGuard .neq xt ox oy (.string ⟨(lK a).toArray⟩) (.string ⟨(lK b).toArray⟩)).run P w=.ok () w:=by rfl
  refine qH.pure ok hM (rv:=.bool (!Ir a b)) ?_ rfl;simp only[hg,Result.andThen_ok,binOp_string_neq,ByteArray.toList_eq,Sem.run_pure];rfl
 ·obtain⟨ht,h⟩:=jZ h;split at h
  ·rename_i r hr;obtain⟨rfl,rfl⟩:=vQ h;obtain⟨us,rfl,lO⟩:=hx;obtain⟨vs,rfl,de⟩:=hy;obtain⟨g1,g2⟩:=heq xt ht M _ _ us vs r w hr lO de;exact step (run_eqGuard_agg w _ xt ox oy us vs g1) (qH.pure ok hM (rv:=.bool r) (by simp only[binOp,Sem.run_bind,g2,Result.andThen_ok];rfl) rfl)
  ·exact h.elim
 ·obtain⟨ht,h⟩:=jZ h;split at h
  ·rename_i r hr;obtain⟨rfl,rfl⟩:=vQ h;obtain⟨us,rfl,lO⟩:=hx;obtain⟨vs,rfl,de⟩:=hy;obtain⟨g1,g2⟩:=heq xt ht M _ _ us vs r w hr lO de;exact step (run_eqGuard_agg w _ xt ox oy us vs g1) (qH.pure ok hM (rv:=.bool (!r)) (by simp only[binOp,Sem.run_bind,g2];rfl) rfl)
  ·exact h.elim
 ·exact h.elim
theorem vLc {P M w}(ok:Ok M)(hM:M.H=w.heap){op x v u rx}(hx:zP M x rx)(h:yE (Nl op x) v u):
  qH P (Op.unary op rx) M w v u:=by
 unfold Nl at h;split at h
 ·obtain⟨rfl,rfl⟩:=vQ h;have e1:rx=_:=hx;subst e1;exact qH.pure ok hM rfl rfl
 ·obtain⟨rfl,rfl⟩:=vQ h;have e1:rx=_:=hx;subst e1;exact qH.pure ok hM rfl rfl
 ·exact h.elim
theorem uE {P w k}{i:Int}{y:Nat}{c}(h0:0≤i)(h1:i≤y):(Instr.sliceBound (.int k i) y c).run P w=.ok i.toNat w:=by
 simp[Instr.sliceBound,asIntOf,h0,h1]
def ze (M:zI):Option zW→Option Value→Prop
 |none,none=>True
 |some a,some v=>zP M a v
 |_,_=>False
theorem Er {P M w b len cap l u lo hi ie gE}(jg:ze M lo ie)(iP:ze M hi gE)(hc:len≤cap)
  (h:rL len lo hi=some (true,l,u)):(Instr.sliceBounds b len cap ie gE none).run P w=.ok (l,u,cap) w∧l≤u∧u≤len∧(lo=none→l=0)∧(hi=none→u=len):=by
 unfold rL at h;split at h
 ·cases h;cases ie with
  |some _=>exact jg.elim
  |none=>cases gE with
   |some _=>exact iP.elim
   |none=>exact⟨by rfl,by simp,by simp,by simp,by simp⟩
 ·rename_i k i;simp  at h;obtain⟨⟨h0,h1⟩,rfl,rfl⟩:=h;cases gE with
  |some _=>exact iP.elim
  |none=>cases ie with
   |none=>exact jg.elim
   |some v=>
    have e:v=.int k i:=jg;subst e;refine⟨?_,by omega,by simp,by simp,by simp⟩;simp[Instr.sliceBounds];rw[uE h0 h1];rfl
 ·rename_i k i;simp  at h;obtain⟨⟨h0,h1⟩,rfl,rfl⟩:=h;cases ie with
  |some _=>exact jg.elim
  |none=>cases gE with
   |none=>exact iP.elim
   |some v=>
    have e:v=.int k i:=iP;subst e;refine⟨?_,by simp,by omega,by simp,by simp⟩;simp only[Instr.sliceBounds,Sem.run_bind,Sem.run_pure,Result.andThen_ok];rw[uE h0 (by omega)];rfl
 ·rename_i k i k' i';simp  at h;obtain⟨⟨⟨h0,h1⟩,h2⟩,rfl,rfl⟩:=h;cases ie with
  |none=>exact jg.elim
  |some v=>cases gE with
   |none=>exact iP.elim
   |some v'=>
    have e:v=.int k i:=jg;have e':v'=.int k' i':=iP;subst e;subst e';refine⟨?_,by omega,by omega,by simp,by simp⟩;simp[Instr.sliceBounds];rw[uE (by omega) (by omega)];simp;rw[uE h0 (by omega)];rfl
 ·cases h
def lR (A:Option Addr)(l c size:Nat):Option Addr:=if c=l then A else A.map (·.add (l*size))
theorem wG.cut {H C lo n l u A c}(h:wG H C lo n (.slice A n c))(h1:l≤u)(h2:u≤n):
  wG H C (lo+l) (u-l) (.slice (lR A l c C.sz) (u-l) (c-l)):=by
 obtain⟨A',c',e,h⟩:=h;obtain⟨rfl,_,rfl⟩:=e;refine⟨_,_,rfl,?_⟩;cases hB:C.blk with
 |none=>
  rw[hB] at h;obtain⟨rfl,rfl,rfl⟩:=h;refine⟨?_,by omega,by omega⟩;unfold lR;simp
 |some B=>
  rw[hB] at h;obtain⟨hc,a,rfl,ha,hs⟩:=h;refine⟨by omega,?_⟩;unfold lR;by_cases e:c=l
  ·simp_all
  ·rw[if_neg e];refine⟨a+l*C.sz,by simp[Addr.add_lit],.inr ?_,by grind⟩;grind
theorem wG.cut' {H C lo n l u A c}(h:wG H C lo n (.slice A n c))(h1:l≤u)(h2:u≤c):
  wG H C (lo+l) (u-l) (.slice (lR A l c C.sz) (u-l) (c-l)):=by
 obtain⟨A',c',e,h⟩:=h;obtain⟨rfl,_,rfl⟩:=e;refine⟨_,_,rfl,?_⟩;cases hB:C.blk with
 |none=>
  rw[hB] at h;obtain⟨rfl,rfl,rfl⟩:=h;refine⟨?_,by omega,by omega⟩;unfold lR;simp
 |some B=>
  rw[hB] at h;obtain⟨hc,a,rfl,ha,hs⟩:=h;refine⟨by omega,?_⟩;unfold lR;by_cases e:c=l
  ·simp_all
  ·rw[if_neg e];refine⟨a+l*C.sz,by simp[Addr.add_lit],.inr ?_,by grind⟩;grind
theorem yS5 {H F t}{xs:List t.den}{A n c l u}(h:qB H F (.sl t) xs (fun _=>some (.slice A n c)))(h1:l≤u)(h2:u≤n):
  qB H F (.sl t) (qZ xs l (u-l)) (fun _=>some (.slice (lR A l c t.size) (u-l) (c-l))):=by
 simp[qB] at h⊢;obtain⟨A',n',c',⟨rfl,rfl,rfl⟩,hn,hc,h⟩:=h;have hl:=yz (xs:=xs) (lo:=l) (n:=u-l) (by omega);refine⟨_,_,_,⟨rfl,rfl,rfl⟩,hl.symm,by omega,?_⟩;by_cases e0:u-l=0
 ·refine .inl ⟨by grind,fun hA=>?_⟩;rcases h with⟨rfl,h0⟩|⟨B,o,rfl,_⟩
  ·cases A with
   |none=>simp_all
   |some a=>
    unfold lR at hA;grind
  ·unfold lR at hA;grind
 ·rcases h with⟨rfl,_⟩|⟨B,o,rfl,hB,hE⟩
  ·simp_all
  ·refine .inr ⟨B,o+l*t.size,?_,hB,fun i hi=>?_⟩
   ·unfold lR;rw[if_neg (by omega)];simp[Addr.add_lit]
   ·obtain⟨bE,e1⟩:=IV hi;grind
theorem YO {P w t e A n c l u ie gE}(hu:P.underlying t=some (.slice e))(he:0<P.cellsOf e)
  (hb:(Instr.sliceBounds true n c ie gE none).run P w=.ok (l,u,c) w):
  (Instr.sliceAt t (.slice A n c) ie gE none).run P w=.ok (.slice (lR A l c (P.cellsOf e)) (u-l) (c-l)) w:=by
 obtain⟨y,hy⟩:=lM he;simp[Instr.sliceAt,run_underlying hu,Instr.slice,hb,fR w hy,lR]
theorem YP {M}:∀{vs us ns},uk vs=some ns→zK (zQ M) vs us→us=ns.map (.int .i64 ·)∧vs=ns.map (.int .i64 ·)
 |[],[],ns,h,_=>by cases h;simp
 |v::vs,u::us,ns,h,hh=>by
  unfold uk at h;split at h
  ·simp_all
  ·rename_i n l heq;cases heq;split at h
   ·rename_i r hr;cases h;obtain⟨e1,e2⟩:=YP hr hh.2;have:u=.int .i64 n:=hh.1;simp_all
   ·cases h
  ·cases h
theorem YQ {M}(ok:Ok M){id own cells}(ah:M.h id=some (.box own cells)):
  ∃M',M'.H=M.H∧M'.h=qW M.h id (.box false cells)∧Ok M'∧yS M M'∧M'.h id=some (.box false cells):=by
 cases own with
 |false=>exact⟨M,rfl,(yy ah).symm,ok,yS.refl M,ah⟩
 |true=>
  obtain⟨C,hC,hO⟩:=ok.obj id _ ah;have pj:yP (M.freeze id (.box false cells) C) (.box false cells) C:=by
   have x:yD M (M.freeze id (.box false cells) C):=⟨fun _ C h=>⟨C,h,C.le_refl⟩,fun _ h=>.inl h,fun _ h=>.inl h,fun _ _=>rfl,fun _ _=>rfl,fun _ _=>rfl⟩;obtain⟨B,vals,e,h1,h2,h3,h4,h5⟩:=hO.ext x fun _ _ _=>rfl
   exact⟨B,vals,e,h1,h2,h3,h4,fun _=>.inr (jT h1)⟩
  have:=zI.freeze_ok ok ah rfl hC rfl pj;exact⟨M.freeze id _ C,rfl,rfl,this.1,this.2,yG _ _ _⟩
theorem vOw {P}{M}{w}(ok:Ok M)(hM:M.H=w.heap){t}{x v}{lo hi mx u rx ie gE zg}
  (hx:zP M x rx) (jg:ze M lo ie) (iP:ze M hi gE) (Es:ze M mx zg) (h:yE (yj P M.h t x lo hi mx) v u):qH P (Instr.sliceAt t rx ie gE zg) M w v u:=by
 unfold yj at h;split at h
 ·rename_i e sh ty xs hu;cases zg with
  |some _=>exact Es.elim
  |none=>
  obtain⟨hz,h⟩:=jZ h;have hz:=Nat.eq_of_beq_eq_true hz;split at h
  ·rename_i ic l u' hc;obtain⟨rfl,rfl,rfl⟩:=ko h;have mD:qB M.H (bif sh then M.G else M.F) (.sl ty) xs (fun _=>some rx):=hx;have zh:=mD;simp only[qB,Option.some.injEq] at zh;obtain⟨A,m,c,rfl,rfl,jc,_⟩:=zh;obtain⟨b1,b2,b3,b4,b5⟩:=Er (P:=P) (w:=w) (b:=true) jg iP jc hc;refine qH.pure ok hM (YO hu (by rw[hz];exact ty.size_pos) b1) ?_;have key:=yS5 mD b2 b3;rw[←hz] at key;show qB _ _ _ _ _;split
   ·rw[b4 rfl,b5 rfl] at key⊢
    simpa[qZ] using key
   ·rw[b5 rfl] at key⊢;have:qZ xs l (xs.length-l)=xs.drop l:=by simp only[qZ];rw[List.take_of_length_le (by simp)]
    rw[this] at key;exact key
   ·rw[b4 rfl] at key⊢
    simpa[qZ] using key
   ·exact key
  ·exact h.elim
 ·rename_i e id r hu;cases zg with
  |some _=>exact Es.elim
  |none=>
  split at h
  ·rename_i own ty xs ah;obtain⟨hz,h⟩:=jZ h;have hz:=Nat.eq_of_beq_eq_true hz;split at h
   ·rename_i ic l u' hc;obtain⟨rfl,rfl,rfl⟩:=ko h;obtain⟨C,hC,hS⟩:=hx;obtain⟨C',aw,hO⟩:=ok.obj _ _ ah;rw[hC] at aw;cases aw;have hlen:=hO.1;have dA:=hO.2.1;have key:∀pv m,pv+m≤C.len→wG M.H C pv m rx→NC C pv rx→rL (match hi with|none=>m|some _=>C.len-pv) lo hi=some (true,l,u')→
      qH P (Instr.sliceAt t rx ie gE none) M w (.c (.osl id (some (pv+l,u'-l)))) []:=by
     intro pv m hm lQ fT jc;have hS0:=lQ;clear hS;obtain⟨A,c,rfl,_⟩:=hS0;obtain⟨_,_,_,fT,Et⟩:=fT;cases fT;have N7:m≤c:=by
      obtain⟨A',c',e,N8⟩:=lQ;simp only[Value.slice.injEq] at e;obtain⟨rfl,_,rfl⟩:=e;cases hB:C.blk with
      |none=>rw[hB] at N8;omega
      |some B=>rw[hB] at N8;exact N8.1
     have hb:∃k,(Instr.sliceBounds true m c ie gE none).run P w=.ok (l,u',c) w∧l≤u'∧u'≤k∧k≤c∧pv+k≤C.len:=by
      cases hi with
      |none=>
       obtain⟨b1,b2,b3,b4,b5⟩:=Er (P:=P) (w:=w) (b:=true) jg iP N7 jc;exact⟨m,b1,b2,b3,N7,hm⟩
      |some y=>
       have hk:C.len-pv≤c:=by omega
       obtain⟨b1,b2,b3,b4,b5⟩:=Er (P:=P) (w:=w) (b:=true) jg iP hk jc;refine⟨C.len-pv,?_,b2,b3,hk,by omega⟩;cases gE with
       |none=>exact iP.elim
       |some ry=>exact b1
     obtain⟨k,b1,b2,b3,b6,b7⟩:=hb;refine qH.pure ok hM (YO hu (by rw[hz];exact ty.size_pos) b1) ⟨C,hC,by omega,?_,_,_,_,rfl,by omega⟩;have:=wG.cut' lQ b2 (by grind);rw[hz,←dA];exact this
    cases r with
    | none => exact key 0 C.len (by omega) hS (by
      obtain⟨A,c,rfl,h⟩:=hS;refine⟨A,_,c,rfl,?_⟩;cases hB:C.blk with
      |none=>rw[hB] at h;omega
      | some B => rw [hB] at h; have := h.1; omega) (by
      unfold Nq at hc;rw[←hlen] at hc;cases hi<;>exact hc)
    | some p => exact key p.1 p.2 hS.1 hS.2.1 hS.2.2 (by
      unfold Nq at hc;rw[←hlen] at hc;cases hi<;>exact hc)
   ·exact h.elim
  ·exact h.elim
 ·rename_i e km m id hu;split at h
  ·rename_i own ty xs ah;obtain⟨hz,h⟩:=jZ h;have hz:=Nat.eq_of_beq_eq_true hz;split at h
   ·skip
    rename_i a b ic l u' _ hc;obtain⟨ek,rfl,rfl⟩:=ko h;simp only[Bool.and_eq_true,decide_eq_true_eq] at ek;obtain⟨⟨ek,h1⟩,h2⟩:=ek;subst ek;obtain⟨C,hC,hS⟩:=hx;obtain⟨C',aw,hO⟩:=ok.obj _ _ ah;rw[hC] at aw;cases aw;have hlen:=hO.1;obtain⟨A,c,rfl,hS⟩:=hS;have N7:C.len≤c:=by
     cases hB:C.blk with
     |none=>rw[hB] at hS;omega
     |some B=>rw[hB] at hS;exact hS.1
    cases zg with
    |none=>exact Es.elim
    |some rm=>
     have hrm:rm=.int km m:=Es;subst hrm;obtain⟨b1,b2,b3,b4,b5⟩:=Er (P:=P) (w:=w) (b:=true) jg iP (Nat.le_refl xs.length) hc;obtain⟨i,hi⟩:=lM (P:=P) (t:=e) (by rw[hz];exact ty.size_pos);cases ie with
     |none=>exact jg.elim
     |some rl=>cases gE with
      |none=>exact iP.elim
      |some rh=>
       have hbb:∃k1 i1 k2 i2,rl=.int k1 i1∧rh=.int k2 i2∧0≤i1∧i1≤i2∧i2≤(xs.length:Int)∧l=i1.toNat∧u'=i2.toNat:=by
        unfold rL at hc;split at hc
        ·rename_i e1 _;cases e1
        ·rename_i e1;cases e1
        ·rename_i e1 _;cases e1
        ·rename_i k i k' i' e1 e2;cases e1;cases e2;simp only[Option.some.injEq,Prod.mk.injEq,Bool.and_eq_true,decide_eq_true_eq] at hc;obtain⟨⟨⟨q0,q1⟩,q2⟩,rfl,rfl⟩:=hc;exact⟨k,i,k',i',jg,iP,q0,q1,q2,rfl,rfl⟩
        ·cases hc
       obtain⟨k1,i1,k2,i2,rfl,rfl,q0,q1,q2,rfl,rfl⟩:=hbb;have hr:∃v,(Instr.sliceAt t (.slice A C.len c) (some (.int k1 i1)) (some (.int k2 i2)) (some (.int km m))).run P w=.ok v w∧v.one1=true:=by
        refine⟨.slice (if m.toNat=i1.toNat then A else A.map (·.add (i1.toNat*P.cellsOf e))) (i2.toNat-i1.toNat) (m.toNat-i1.toNat),?_,rfl⟩;have e1:=uE (P:=P) (w:=w) (k:=km) (i:=m) (y:=c) (c:=.slice3Acap) (by omega) (by omega);have e2:=uE (P:=P) (w:=w) (k:=k2) (i:=i2) (y:=m.toNat) (c:=.slice3B) (by omega) (by omega);have e3:=uE (P:=P) (w:=w) (k:=k1) (i:=i1) (y:=i2.toNat) (c:=.slice3C) (by omega) (by omega);simp[Instr.sliceAt,run_underlying hu,Instr.slice,Instr.sliceBounds,e1,e2,e3,fR w hi]
       obtain⟨v,hr,hv⟩:=hr;exact qH.pure ok hM hr hv
   ·exact h.elim
  ·exact h.elim
 ·rename_i n e id off hu;cases zg with
  |some _=>exact Es.elim
  |none=>
  obtain⟨hz,h⟩:=jZ h;have hz:=Nat.eq_of_beq_eq_true hz;obtain⟨y,hy⟩:=lM (P:=P) (t:=e) (by omega);split at h
  ·rename_i own cells ah;obtain⟨C,B,hC,hB,rfl⟩:=hx;split at h
   ·obtain⟨_,h⟩:=jZ h;obtain⟨rfl,rfl⟩:=vQ h;have N9:ie=none:=by cases ie with
     |none=>rfl
     |some _=>exact jg.elim
    have Oa:gE=none:=by cases gE with
     |none=>rfl
     |some _=>exact iP.elim
    subst N9;subst Oa;refine qH.pure ok hM (rv:=.slice (some ⟨B,off,none⟩) n n) ?_ ⟨C,B,hC,hB,rfl⟩;simp[Instr.sliceAt,run_underlying hu,hY,Instr.sliceBounds,fR w hy,Addr.add_lit]
   ·split at h
    ·rename_i vs dU;split at h
     ·rename_i ns ic l u' Ob hc;obtain⟨rfl,rfl,rfl⟩:=eY h;obtain⟨b1,b2,b3,b4,b5⟩:=Er (P:=P) (w:=w) (b:=false) jg iP (Nat.le_refl n) hc;obtain⟨M',a1,a2,a3,a4,a5⟩:=YQ ok ah;obtain⟨C1,fU,le⟩:=a4.ext.κ id C hC;obtain⟨C2,YR,hO⟩:=a3.obj id _ a5;rw[fU] at YR;cases YR;obtain⟨B',vals,ev,k1,k2,k3,k4,k5⟩:=hO;rw[le.blk,hB] at k1;cases k1;obtain⟨q1,q2,q3⟩:=Eg dU;have bb:=YH k4 dU;obtain⟨e1,e2⟩:=YP Ob bb;have hlen:ns.length=n:=by rw[e2] at q3;simpa[hz] using q3
      refine⟨.slice (some (if n=l then⟨B,off,none⟩ else⟨B,off+l*P.cellsOf e,none⟩)) (u'-l) (n-l),w,M',?_,rfl,rfl,rfl,a1.trans hM,by cases own with
       |true=>exact a2
       |false=>rw[a2];exact yy ah,a3,a4,?_⟩
      ·simp[Instr.sliceAt,run_underlying hu,hY,b1,fR w hy,Addr.add_lit]
      ·show qB M'.H (bif true then M'.G else M'.F) (.sl (.int .i64)) (qZ ns l (u'-l)) (fun _=>some _);simp only[qB,Option.some.injEq,Value.slice.injEq];have hl:=yz (xs:=ns) (lo:=l) (n:=u'-l) (by omega);refine⟨_,_,_,⟨rfl,rfl,rfl⟩,hl.symm,by omega,?_⟩;by_cases e0:u'-l=0
       ·exact by grind
       ·refine .inr ⟨B,off+l*P.cellsOf e,by rw[if_neg (by omega)],k5 rfl,fun i hi=>?_⟩;obtain⟨bE,e3⟩:=IV hi;rw[e3,hz];simp only[qB,Ty.size,Nat.mul_one,Nat.add_zero,yH,k3];have e4:(vals.extract off (off+n)).toList[l+i]? =(ns.map (Value.int .i64 ·))[l+i]? :=by rw[e1]
        simp only[Array.getElem?_toList,List.getElem?_map,List.getElem?_eq_getElem bE,Option.map_some] at e4;rw[Array.getElem?_extract] at e4;split at e4
        ·rw[Nat.add_assoc];exact e4
        ·cases e4
     ·exact h.elim
    ·exact h.elim
  ·exact h.elim
 ·exact h.elim
def zI.move (M:zI)(nm:Nat)(C:zZ)(h:Hp)(H:Array Go.Obj):zI:={M with κ:=κset M.κ nm C,h:=h,H:=H}
theorem zI.move_ok {M}(ok:Ok M){nm:Nat}{o':Obj}{C':zZ}{h'}{H'}(J:Nat→Prop)(aO:M.h nm=none)
    (hJ:∀j,J j→∃o,M.h j=some o∧o.owned=true∧h' j=some .gone) (Eu:h' nm=some o') (bS:∀n,¬J n→n≠nm→h' n=M.h n) (dA:M.H.size≤H'.size)
    (hH:∀b,b<M.H.size→(∀j C,J j→M.κ j=some C→b∉C.fp)→H'[b]? =M.H[b]?) (cC:∀b,b<M.H.size→qP H' b=qP M.H b)
    (nE:∀b∈C'.fp,(M.H.size≤b∧b<H'.size)∨∃j C,J j∧M.κ j=some C∧b∈C.fp)
    (hO:yD M (M.move nm C' h' H')→yP (M.move nm C' h' H') o' C'):Ok (M.move nm C' h' H')∧yS M (M.move nm C' h' H'):=by
  have YS:∀j C b,J j→M.κ j=some C→b∈C.fp→qJ M b:=fun j C b hj hC hb=>by
    obtain⟨o,h1,h2,_⟩:=hJ j hj;exact⟨j,o,C,h1,h2,hC,hb⟩
  have rU:∀b,M.F b→∀j C,J j→M.κ j=some C→b∉C.fp:=fun b hF j C hj hC hb=>(ok.own b (YS j C b hj hC hb)).1 hF
  have x:yD M (M.move nm C' h' H'):=
    { κ:=fun n D h=>by
        have:n≠nm:=fun e=>by rw[e,ok.non nm aO] at h;cases h
        exact⟨D,by simp only[zI.move];rw[κset_ne _ _ this];exact h,D.le_refl⟩
      F:=fun _ h=>h
      G:=fun _ h=>h
      same:=fun b h=>hH b (ok.Flt b h) (rU b h)
      sameG:=fun b h=>hH b (ok.Flt b (ok.GF b h)) (rU b (ok.GF b h))
      bsz:=cC}
  have Oc:∀j,J j→j≠nm:=by grind
  have dj:∀n q,n≠nm→h' n=some q→q.owned=true→¬J n∧M.h n=some q:=by
    intro n q e h1 h2;by_cases hj:J n
    · obtain⟨o,_,_,k⟩:=hJ n hj;rw[k] at h1;cases h1;cases h2
    simp_all
  have pg:∀b,qJ (M.move nm C' h' H') b→(M.H.size≤b∧b<H'.size)∨qJ M b:=by
    rintro b ⟨n,q,D,h1,h2,h3,h4⟩
    by_cases e:n=nm
    · subst e;simp only[zI.move,κset_same,Option.some.injEq] at h3;grind
    · obtain⟨_,eM⟩:=dj n q e h1 h2;simp only[zI.move] at h3;rw[κset_ne _ _ e] at h3;exact .inr ⟨n,q,D,eM,h2,h3,h4⟩
  refine⟨ok.build x (fun n=>n=nm∨J n) (fun n hn=>bS n (by grind) (by grind)) (fun n hn=>κset_ne _ _ fun e=>hn (.inl e)) ?_ ?_ dA ?_ ?_ ?_ ok.GF ?_,x,dA,?_,?_,fun b h _=>.inl h,fun b h _=>.inl h⟩
  · intro n q D hn h1 h2 h3 b hb;refine hH b (ok.own b ⟨n,q,D,h1,h2,h3,hb⟩).2 fun j C hj hC hc=>?_
    obtain⟨o,k1,k2,_⟩:=hJ j hj;exact ok.disj n j q o D C b (by grind) h1 k1 h2 k2 h3 hC hb hc
  · intro n q D hn h1 h2 h3 b hb;exact(ok.own b ⟨n,q,D,h1,h2,h3,hb⟩).1
  · rintro n q (rfl|hj) h1
    · simp only[zI.move] at h1;rw[Eu] at h1;cases h1;exact⟨C',κset_same _ _ _,hO x⟩
    · obtain⟨o,k1,_,k⟩:=hJ n hj;simp only[zI.move] at h1;rw[k] at h1;cases h1;obtain⟨C,hC,_⟩:=ok.obj n o k1;exact⟨C,by simp only[zI.move];rw[κset_ne _ _ (Oc n hj)];exact hC,trivial⟩
  · rintro n (rfl|hj) h1
    · simp only[zI.move] at h1;rw[Eu] at h1;cases h1
    · obtain⟨o,_,_,k⟩:=hJ n hj;simp only[zI.move] at h1;rw[k] at h1;cases h1
  · rintro n q D b (rfl|hj) h1 h2 h3 hb
    · simp only[zI.move,κset_same,Option.some.injEq] at h3;subst h3;rcases nE b hb with Ev|⟨j,C,hj,hC,bD⟩
      · refine⟨fun k qk Dk hk k1 k2 k3 k4=>?_,fun hF=>?_,Ev.2⟩
        · obtain⟨_,y9⟩:=dj k qk hk k1 k2;simp only[zI.move] at k3;rw[κset_ne _ _ hk] at k3;have:=(ok.own b ⟨k,qk,Dk,y9,k2,k3,k4⟩).2;omega
        · have:=ok.Flt b hF;omega
      · have ho:=ok.own b (YS j C b hj hC bD);refine⟨fun k qk Dk hk k1 k2 k3 k4=>?_,ho.1,by simp only[zI.move];omega⟩;obtain⟨hkJ,y9⟩:=dj k qk hk k1 k2;simp only[zI.move] at k3;rw[κset_ne _ _ hk] at k3;obtain⟨o,j1,j2,_⟩:=hJ j hj;exact ok.disj k j qk o Dk C b (by grind) y9 j1 k2 j2 k3 hC k4 bD
    · obtain⟨o,_,_,k⟩:=hJ n hj;simp only[zI.move] at h1;grind
  · intro b hb;have:=ok.Flt b hb;simp only[zI.move];omega
  · intro b hb hn;exact hH b hb (by grind)
  grind
theorem YT {P M w}(ok:Ok M)(hM:M.H=w.heap){nm vs us e s}(aO:M.h nm=none)
  (de:zK (zQ M) vs us.toList) (hr:s.run P w=.ok (.pointer (some ⟨w.heap.size,0,none⟩)) (w.alloc (.cells us e))):
  qH P s M w (.c (.ptr nm 0)) [(nm,.box true vs)]:=by
 let C:zZ:=⟨some M.H.size,0,0,0,[]⟩;have := zI.new_ok ok aO (.box true vs) C (.cells us e) (by simp [C, zZ.fp]) (by
  refine⟨M.H.size,us,e,rfl,rfl,ur,de.mono fun _ _ h=>h.ext (zI.new_ext ok aO _ _ _),by simp⟩)
 exact⟨_,_,_,hr,rfl,rfl,rfl,by show M.H.push _=w.heap.push _;rw[hM],rfl,this.1,this.2,C,M.H.size,κset_same _ _ _,rfl,by rw[hM]⟩
theorem Ew {H F}:∀t rd,(∀j,j<t.size→rd j=(fy t)[j]?)→qB H F t t.dflt rd
 |.int k,rd,h
 |.bool,rd,h=>by simp[qB];rw[h 0 (by simp[Ty.size])];rfl
 |.sl t,rd,h=>by
  simp[Ty.dflt];exact⟨none,0,0,by rw[h 0 (by simp[Ty.size])];rfl,rfl,by simp,by simp⟩
 |.pair a b,rd,h=>by
  have hl:∀t:Ty,(fy t).length=t.size:=by
   intro t
   induction t with
   |pair a b zi zj=>simp[fy,Ty.size,zi,zj]
   |_=>rfl
  simp[Ty.size,fy] at h;refine⟨Ew a rd (by grind),Ew b _ (by grind)⟩
theorem I5:∀t:Ty,(fy t).length=t.size
 |.int _|.bool|.sl _=>rfl
 |.pair a b=>by simp[fy,Ty.size,I5 a,I5 b]
theorem yYa {a b}(h:Ng a b=true):a=b:=by
 unfold Ng at h;split at h
 ·simp  at h;rw[oV h.1,h.2]
 all_goals grind
theorem YU:∀{l m},D6 l m=true→l=m
 |[],[],_=>rfl
 |a::l,b::m,h=>by
  simp[D6] at h;rw[yYa h.1,YU h.2]
theorem nJ {P e t}(h:gW P e=some t):∃i z,P.info? e=some i∧i.zero=some z∧i.size=t.size∧z.cells.toList=fy t∧P.cellsOf e=t.size∧P.bytesOf e=i.bytes∧z.cells.size=t.size:=by
 unfold gW at h;split at h
 ·rename_i t' i h1 h2;split at h
  ·rename_i z hz;cases hb:(Nat.beq i.size t'.size&&D6 z.cells.toList (fy t')) with
   |false=>simp_all
   |true=>
    rw[hb] at h;cases h;simp only[Bool.and_eq_true] at hb;have e1:=Nat.eq_of_beq_eq_true hb.1;have e2:=YU hb.2;refine⟨i,z,h2,hz,e1,e2,by rw[NF h2];exact e1,yUq h2,?_⟩;have:=congrArg List.length e2;rw[I5] at this;omega
  ·cases h
 ·cases h
theorem YV {z:Value}{t}(h:z.cells.toList=fy t)(hs:z.cells.size=t.size){i j} hj:z.cells[(i*t.size+j)%z.cells.size]! =(fy t)[j]'(by rw[I5];exact hj):=by
 have e1:(i*t.size+j)%z.cells.size=j:=by rw[hs,Nat.mul_comm,Nat.mul_add_mod,Nat.mod_eq_of_lt hj]
 grind
theorem YW {H F}{z:Value}{t}(h:z.cells.toList=fy t)(hs:z.cells.size=t.size){n i}(hi:i<n):
  qB H F t t.dflt (fun j=>(madeCells z.cells (n*t.size))[i*t.size+j]?):=by
 refine Ew t _ fun j hj=>?_
 have aU:=Nat.mul_le_mul_right t.size (show i+1≤n by omega);rw[List.getElem?_eq_getElem (by grind),←YV h hs (i:=i) hj];simp[madeCells];grind
theorem YX {P M w}(ok:Ok M)(hM:M.H=w.heap){nm t xs us e s c}(aO:M.h nm=none)
  (hc:xs.length≤c) (hs:c*t.size≤us.size) (hx:∀i h,qB M.H M.G t xs[i] (fun j=>us[i*t.size+j]?))
  (hr:s.run P w=.ok (.slice (some ⟨w.heap.size,0,none⟩) xs.length c) (w.alloc (.cells us e))):
  qH P s M w (.c (.osl nm none)) [(nm,.arr true t xs)]:=by
 let C:zZ:=⟨some M.H.size,xs.length,t.size,0,[]⟩;have x:=zI.new_ext ok aO (.arr true t xs) C (.cells us e);have hle:=Nat.mul_le_mul_right t.size hc;have := zI.new_ok ok aO (.arr true t xs) C (.cells us e) (by simp [C, zZ.fp]) (by
  refine⟨rfl,rfl,by grind,us,e,ur,by simp,by omega,fun i hi=>?_⟩;exact yR x.G x.sameG t _ _ _ (by simp) (hx i hi))
 refine⟨_,_,_,hr,rfl,rfl,rfl,by show M.H.push _=w.heap.push _;rw[hM],rfl,this.1,this.2,C,κset_same _ _ _,_,c,rfl,?_⟩;refine⟨hc,0,by rw[hM],by simp,?_⟩;simp;have:qP (M.H.push (.cells us e)) M.H.size=us.size:=by simp[qP]
 show c*t.size≤qP (M.H.push (.cells us e)) M.H.size;omega
theorem vAv {P M w}(ok:Ok M)(hM:M.H=w.heap){nm t zs}(aO:M.h nm=none)(hz:zeroCells P t=some zs):
  qH P (Instr.alloc t true (.tuple #[])) M w (.c (.ptr nm 0)) [(nm,.box true zs)]:=by
 obtain⟨i,v,h1,h2,h3,h4,rfl⟩:=Yq hz;refine YT ok hM aO (us:=v.cells) (e:=t) (IP M h4) ?_;simp[Instr.alloc,zeroValue,typeInfo,h1,h2,newVar,newRow]
theorem YY {P M w}(ok:Ok M)(hM:M.H=w.heap){nm t x rx vs}(aO:M.h nm=none)(hx:zP M x rx)(hv:lJ x=some vs):
  qH P (Instr.box t rx) M w (.c (.ptr nm 0)) [(nm,.box true vs)]:=by
 refine YT ok hM aO (us:=rx.cells) (e:=t) (IU hv hx) ?_;rfl
theorem vIj {P M w}(ok:Ok M)(hM:M.H=w.heap){nm t x rx vs}(aO:M.h nm=none)(hx:zP M x rx)(hv:lJ x=some vs) m:
  qH P (Instr.box t rx) M w (.c (.ptr nm 0)) [(nm,.box (!m) vs)]:=by
 cases m with
 |false=>exact YY ok hM aO hx hv
 |true=>
  obtain⟨rv,w',M',a1,a2,a3,a4,a5,a6,a7,a8,a9⟩:=YY (P:=P) (t:=t) ok hM aO hx hv;have ah:M'.h nm=some (.box true vs):=by rw[a6];exact yG _ _ _
  obtain⟨M2,b1,b2,b3,b4,b5⟩:=YQ a7 ah;refine⟨rv,w',M2,a1,a2,a3,a4,b1.trans a5,?_,b3,a8.trans b4,a9.ext b4.ext⟩;rw[b2,a6];funext n;show qW (qW M.h nm _) nm _ n=qW M.h nm _ n;by_cases e:n=nm
  ·subst e;rw[yG,yG];rfl
  ·rw[yI _ _ e,yI _ _ e,yI _ _ e]
theorem YZ {α:Type}{n i:Nat}{a:α} h:(List.replicate n a)[i]=a:=by simp
theorem yYn {P M w}(ok:Ok M)(hM:M.H=w.heap){nm n us e s c}(aO:M.h nm=none)
  (hc:n≤c) (hs:c≤us.size) (hx:∀i,i<n→us[i]? =some (.slice none 0 0))
  (hr:s.run P w=.ok (.slice (some ⟨w.heap.size,0,none⟩) n c) (w.alloc (.cells us e))):
  qH P s M w (.c (.osl nm none)) [(nm,.mat 0 (List.replicate n []))]:=by
 let C:zZ:=⟨some M.H.size,n,1,0,List.replicate n (none,0)⟩;have hfm:(List.replicate n ((none,0):Option Nat×Nat)).filterMap (·.1)=[]:=by
  simp
 have nE:C.fp=[M.H.size]:=by simp[C,zZ.fp]
 have := zI.new_ok ok aO (.mat 0 (List.replicate n [])) C (.cells us e) (by simp_all) (by
  refine⟨rfl,by simp[C],rfl,by simp[C],by simp_all,us,e,ur,by grind,fun i hi=>?_⟩;have dZ:i<n:=by simp_all
  refine⟨none,.slice none 0 0,by grind,hx i dZ,⟨rfl,by simp⟩,by simp⟩)
 refine⟨_,_,_,hr,rfl,rfl,rfl,by show M.H.push _=w.heap.push _;rw[hM],rfl,this.1,this.2,C,κset_same _ _ _,_,c,rfl,?_⟩;refine⟨hc,0,by rw[hM],by simp,?_⟩;simp;have:qP (M.H.push (.cells us e)) M.H.size=us.size:=by simp[qP]
 show c*1≤qP (M.H.push (.cells us e)) M.H.size;omega
theorem vM5 {P M w}(ok:Ok M)(hM:M.H=w.heap){mat nm t l c v u rl rc}(hl:zP M l rl)(hc:zP M c rc)
  (h:yE (yf P mat nm M.h t l c) v u):qH P (Instr.makeSlice t rl rc) M w v u:=by
 unfold yf at h;split at h
 ·rename_i e l c hu aO;have e1:rl=.int .i64 l:=hl;have e2:rc=.int .i64 c:=hc;subst e1;subst e2;cases mat with
  |true=>
   split at h
   ·rename_i dh;obtain⟨ek,rfl,rfl⟩:=eY h;obtain⟨i,z,h1,h2,h3,h4,h5,h6,h7⟩:=nJ dh;simp[Bool.and_eq_true] at ek;obtain⟨⟨⟨o1,o2⟩,o3⟩,o4⟩:=ek;have hr:=run_make (P:=P) w t e i z hu h1 h2 .i64 .i64 l c o1 o2 (by grind) (by omega);have dA:i.size=1:=h3;rw[dA,Nat.mul_one] at hr;refine yYn ok hM aO (n:=l.toNat) (c:=c.toNat) (by omega) (by rw[size_madeCells];omega) (fun k hk=>?_) hr;have I6:z.cells.toList=[.slice none 0 0]:=h4;have Od:z.cells.size=1:=h7;simp only[madeCells];have:z.cells.toList[0]'(by simp;omega)=.slice none 0 0:=by grind
    grind
   ·exact h.elim
  |false=>
   simp  at h;split at h
   ·rename_i ty dh;obtain⟨ek,rfl,rfl⟩:=eY h;obtain⟨i,z,h1,h2,h3,h4,h5,h6,h7⟩:=nJ dh;simp  at ek;obtain⟨⟨⟨o1,o2⟩,o3⟩,o4⟩:=ek;have hr:=run_make (P:=P) w t e i z hu h1 h2 .i64 .i64 l c o1 o2 (by grind) (by omega);refine YX ok hM aO (c:=c.toNat) (us:=madeCells z.cells (c.toNat*ty.size)) (e:=e) (by grind) (by rw[size_madeCells];omega) (fun k hk=>?_) (by simp_all);rw[YZ hk];simp  at hk;exact YW h4 h7 (by omega)
   ·exact h.elim
 ·exact h.elim
end Go.Ab
