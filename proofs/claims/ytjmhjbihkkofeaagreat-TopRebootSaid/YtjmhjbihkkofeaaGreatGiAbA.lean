/- part 0 -/
import Derived.Calls
import Derived.Orders
import Derived.KernelRfl
import Derived.Laws.Append
import Derived.Laws.AppendOwn
import Derived.Laws.MakeOwn
import Derived.Laws.IdiomCopy
import Derived.Laws.StructEq
import Derived.Laws.CopyRow
import Derived.ChangeKeysEq
set_option linter.unusedVariables false
namespace Go.Ab
inductive Ty where
 |int (k:IntKind)|bool|sl (t:Ty)|pair (a b:Ty)
abbrev Ty.den:Ty→Type
 |.int _=>Int|.bool=>Bool|.sl t=>List t.den|.pair a b=>a.den×b.den
def Ty.size:Ty→Nat
 |.int _=>1|.bool=>1|.sl _=>1|.pair a b=>a.size+b.size
def Ty.flat:Ty→Bool
 |.int _|.bool=>true|.sl _=>false|.pair a b=>a.flat&&b.flat
def Ty.dflt:(t:Ty)→t.den
 |.int _=>(0:Int)|.bool=>false|.sl t=>([]:List t.den)|.pair a b=>(a.dflt,b.dflt)
def dB:IntKind→IntKind→Bool
 |.i8,.i8|.i16,.i16|.i32,.i32|.i64,.i64|.u8,.u8|.u16,.u16|.u32,.u32|.u64,.u64=>true
 |_,_=>false
theorem oC {a b}(h:dB a b=true):a=b:=by cases a<;>cases b<;>first|rfl|cases h
def mT:Ty→Ty→Bool
 |.int j,.int k=>dB j k
 |.bool,.bool=>true
 |.sl a,.sl b=>mT a b
 |.pair a b,.pair c d=>mT a c&&mT b d
 |_,_=>false
theorem CE:∀{a b},mT a b=true→a=b
 |.int j,.int k,h=>congrArg Ty.int (oC h)
 |.bool,.bool,_=>rfl
 |.sl a,.sl b,h=>congrArg Ty.sl (CE (a:=a) (b:=b) h)
 |.pair a b,.pair c d,h=>by
  simp[mT] at h
  rw[CE h.1,CE h.2]
def eG (a b:Ty)(xs:List a.den):Option (List b.den):=
 if h:mT a b=true then some (CE h▸xs) else none
inductive zS where
 |undef
 |int (k:IntKind) (n:Int)
 |bool (b:Bool)
 |fsl (sh:Bool) (t:Ty) (xs:List t.den)
 |nfl (sh:Bool) (t:Ty) (xs:List t.den)
 |nsl
 |osl (id:Nat) (r:Option (Nat×Nat))
 |bsl (id off len:Nat)
 |ptr (id off:Nat)
 |eptr (id i off:Nat)
 |fptr (sh:Bool) (t:Ty) (x:t.den) (off:Nat)
 |mrow (id i ver:Nat)
 |mptr (id i:Nat)
 |meptr (id i j ver:Nat)
 |nilp|nilf|nilm
 |fn (f:Nat) (cap:List Nat)
 |map (id:Nat)
 |str (xs:List Int)
inductive zQ where
 |undef
 |skp
 |c (v:zS)
 |agg (vs:List zS)
 |tup (xs:List (Bool×List zS))
inductive Obj where
 |box (own:Bool) (cells:List zS)
 |robox (cells:List zS)
 |arr (own:Bool) (t:Ty) (xs:List t.den)
 |mat (ver:Nat) (xs:List (List Int))
 |pmat (ver:Nat) (xs:List (List Int)) (n:Nat)
 |imap (cj:List (Int×Bool))
 |gone
abbrev Hp:=Nat→Option Obj
abbrev yR:=List (Nat×Obj)
def qY (h:Hp)(id:Nat)(o:Obj):Hp:=fun n=>bif Nat.beq n id then some o else h n
def qC (h:Hp):yR→Hp
 |[]=>h
 |(id,o)::u=>qC (qY h id o) u
structure St where
 t:Nat→zQ
 h:Hp
def wX (t:Nat→zQ)(d:Nat)(v:zQ):Nat→zQ:=fun n=>bif Nat.beq n d then v else t n
def fH (t:Nat→zQ)(d:Option Nat)(v:zQ):Nat→zQ:=match d with
 |some d=>wX t d v
 |none=>t
inductive yI where
 |alts (l:List (Bool×zQ×yR))
 |call (X:Type) (x:Option X) (f:X→zQ×yR)
 |call2 (X Y:Type) (x:Option (X⊕Y)) (f:X→zQ×yR) (g:Y→zQ×yR)
def yI.stuck:yI:=.alts []
def yI.one (v:zQ):yI:=.alts [(true,v,[])]
def yI.when (c:Bool)(v:zQ):yI:=.alts [(c,v,[])]
def LC {R:Type}(K:zQ→yR→Option R):List (Bool×zQ×yR)→Option R
 |[]=>none
 |(c,v,u)::l=>bif c then K v u else LC K l
def yI.elim {R}(s:yI)(K:zQ→yR→Option R):Option R:=match s with
 |.alts l=>LC K l
 |.call _ x f=>x.bind fun r=>K (f r).1 (f r).2
 |.call2 _ _ x f g=>x.bind fun r=>match r with
  |.inl a=>K (f a).1 (f a).2
  |.inr b=>K (g b).1 (g b).2
def tf:Value→zS
 |.int k n=>.int k n
 |.bool b=>.bool b
 |.slice none 0 0=>.nsl
 |.pointer none=>.nilp
 |.nilFunc=>.nilf
 |.map none=>.nilm
 |_=>.undef
def tg:Value→Bool
 |.agg _|.tuple _=>false
 |_=>true
def LD:Value→zQ
 |.agg cs=>bif cs.toList.all tg then .agg (cs.toList.map tf) else .undef
 |.tuple _=>.undef
 |v=>.c (tf v)
def St.ev (st:St):Operand→zQ
 |.tmp t=>st.t t
 |.const v=>LD v
 |.global _=>.undef
 |.func f=>.c (.fn f [])
def cellsOf (sh:Bool):(t:Ty)→t.den→List zS
 |.int k,n=>[.int k n]
 |.bool,b=>[.bool b]
 |.sl t,xs=>[.fsl sh t xs]
 |.pair a b,p=>cellsOf sh a p.1++cellsOf sh b p.2
def LF (k:IntKind):Nat→zS→Option Int
 |0,.int j n=>bif dB j k then some n else none
 |_,_=>none
def LG:Nat→zS→Option Bool
 |0,.bool b=>some b
 |_,_=>none
def LH (t:Ty):Nat→zS→Option (List t.den)
 |0,.fsl true s xs=>eG s t xs
 |0,.nsl=>some []
 |_,_=>none
def oD:(t:Ty)→t.den→Nat→zS→Option t.den
 |.int k,_,off,v=>LF k off v
 |.bool,_,off,v=>LG off v
 |.sl t,_,off,v=>LH t off v
 |.pair a b,p,off,v=>bif Nat.blt off a.size then(match oD a p.1 off v with|some x=>some (x,p.2)|none=>none)
   else(match oD b p.2 (off-a.size) v with|some y=>some (p.1,y)|none=>none)
def oE (t:Ty):t.den→Nat→List zS→Option t.den
 |x,_,[]=>some x
 |x,off,v::vs=>match oD t x off v with
  |some y=>oE t y (off+1) vs
  |none=>none
def CF (t:Ty)(vs:List zS):Option t.den:=bif Nat.beq vs.length t.size then oE t t.dflt 0 vs else none
def qS {α:Type}(xs:List α)(lo n:Nat):List α:=(xs.drop lo).take n
def fI {α}(xs:List α):Option (Nat×Nat)→List α
 |none=>xs
 |some (lo,n)=>qS xs lo n
def eH:List (Option Ty)→Option Ty
 |[]=>none
 |[t]=>t
 |a::l=>match a,eH l with
  |some x,some y=>some (.pair x y)
  |_,_=>none
def GL (P:Program):Nat→TypeId→Option Ty
 |0,_=>none
 |d+1,t=>match P.underlying t with
  |some (.int k)=>some (.int k)
  |some .bool=>some .bool
  |some (.slice e)=>(GL P d e).map .sl
  |some (.struct fs)=>eH (fs.toList.map fun f=>GL P d f.type)
  |some (.array n e)=>eH (List.replicate n (GL P d e))
  |_=>none
def eI:Ty→List Value
 |.int k=>[.int k 0]
 |.bool=>[.bool false]
 |.sl _=>[.slice none 0 0]
 |.pair a b=>eI a++eI b
def LI:Value→Value→Bool
 |.int j a,.int k b=>dB j k&&decide (a=b)
 |.bool a,.bool b=>bif a then b else !b
 |.slice none 0 0,.slice none 0 0=>true
 |_,_=>false
def CG:List Value→List Value→Bool
 |[],[]=>true
 |a::l,b::m=>LI a b&&CG l m
 |_,_=>false
def gb (P:Program)(e:TypeId):Option Ty:=match GL P 8 e,P.info? e with
 |some t,some i=>match i.zero with
  |some z=>bif Nat.beq i.size t.size&&CG z.cells.toList (eI t) then some t else none
  |none=>none
 |_,_=>none
def jE (P:Program)(t:TypeId):Option Bool:=match P.underlying t with
 |some (.struct _)|some (.array _ _)=>some true
 |some _=>some false
 |none=>none
def zeroCells (P:Program)(t:TypeId):Option (List zS):=match P.info? t with
 |some i=>match i.zero with
  |some v=>bif Nat.beq v.cells.size i.size&&v.cells.toList.all tg then some (v.cells.toList.map tf) else none
  |none=>none
 |none=>none
def mU (agg:Option Bool)(vs:List zS):Option zQ:=match agg with
 |some true=>some (.agg vs)
 |some false=>match vs with
  |[v]=>some (.c v)
  |_=>none
 |none=>none
def yI.ofO:Option zQ→yI
 |some v=>.one v
 |none=>.stuck
def ja (cells:List zS)(off n:Nat):Option (List zS):=
 bif Nat.ble (off+n) cells.length then some ((cells.drop off).take n) else none
def tj (cells:List zS)(off:Nat):List zS→Option (List zS)
 |[]=>some cells
 |v::vs=>bif Nat.blt off cells.length then tj (cells.set off v) (off+1) vs else none
def kX:zQ→Option (List zS)
 |.c v=>some [v]
 |.agg vs=>some vs
 |_=>none
def tl (f:(n:Nat)→BitVec n→BitVec n→BitVec n)(k:IntKind)(x y:Int):Int:=
 k.wrap (f k.bits (BitVec.ofInt k.bits x) (BitVec.ofInt k.bits y)).toNat
def Wu (op:BinOp)(k:IntKind)(x y:Int):yI:=match op with
 |.add=>.one (.c (.int k (k.wrap (x+y))))
 |.sub=>.one (.c (.int k (k.wrap (x-y))))
 |.mul=>.one (.c (.int k (k.wrap (x*y))))
 |.quo=>.when (!decide (y=0)) (.c (.int k (k.wrap (x.tdiv y))))
 |.rem=>.when (!decide (y=0)) (.c (.int k (x.tmod y)))
 |.and=>.one (.c (.int k (tl (fun _ a b=>a&&&b) k x y)))
 |.or=>.one (.c (.int k (tl (fun _ a b=>a|||b) k x y)))
 |.xor=>.one (.c (.int k (tl (fun _ a b=>a^^^b) k x y)))
 |.andNot=>.one (.c (.int k (tl (fun _ a b=>a&&&~~~b) k x y)))
 |.eql=>.one (.c (.bool (decide (x=y))))
 |.neq=>.one (.c (.bool (!decide (x=y))))
 |.lss=>.one (.c (.bool (decide (x<y))))
 |.leq=>.one (.c (.bool (decide (x≤y))))
 |.gtr=>.one (.c (.bool (decide (x>y))))
 |.geq=>.one (.c (.bool (decide (x≥y))))
 |_=>.stuck
def Wv (op:BinOp)(k:IntKind)(x y:Int):yI:=match op with
 |.shl=>.when (!decide (y<0)) (.c (.int k (k.wrap (x*2^(min y.toNat k.bits)))))
 |.shr=>.when (!decide (y<0)) (.c (.int k (x.fdiv (2^(min y.toNat k.bits)))))
 |_=>.stuck
def kh (a b:Bool):Bool:=bif a then b else !b
def dC:List zS→List zS→Option Bool
 |[],[]=>some true
 |[.int j a],[.int k b]=>bif dB j k then some (decide (a=b)) else none
 |.int j a::l,.int k b::m=>bif dB j k then(match dC l m with|some r=>some (decide (a=b)&&r)|none=>none) else none
 |[.bool a],[.bool b]=>some (kh a b)
 |.bool a::l,.bool b::m=>match dC l m with|some r=>some (kh a b&&r)|none=>none
 |_,_=>none
def GM (P:Program)(rec:TypeId→Option (List (Option IntKind))):Nat→List Field→Option (List (Option IntKind))
 |_,[]=>some []
 | i, f :: l => bif Nat.beq f.offset i && !(f.name == "_") then (match rec f.type,GM P rec (i+P.cellsOf f.type) l with
  |some a,some r=>bif Nat.beq a.length (P.cellsOf f.type)&&Nat.blt 0 a.length then some (a++r) else none
  |_,_=>none) else none
def tm {α:Type}:Nat→List α→List α
 |0,_=>[]
 |n+1,l=>l++tm n l
def wo (P:Program):Nat→TypeId→Option (List (Option IntKind))
 |0,_=>none
 |d+1,t=>match P.underlying t with
  |some (.int k)=>some [some k]
  |some .bool=>some [none]
  |some (.struct fs)=>GM P (wo P d) 0 fs.toList
  |some (.array n e)=>match wo P d e with
   |some a=>bif Nat.beq a.length (P.cellsOf e)&&Nat.blt 0 a.length then some (tm n a) else none
   |none=>none
  |_=>none
def Ww (P:Program)(t:TypeId):Option (List (Option IntKind)):=match P.underlying t with
 |some (.struct _)=>wo P 8 t
 |_=>none
def dU:List (Option IntKind)→List zS→Bool
 |[],[]=>true
 |some k::l,.int j _::cs=>dB j k&&dU l cs
 |none::l,.bool _::cs=>dU l cs
 |_,_=>false
def GN (P:Program)(t:TypeId)(a b:List zS):Option Bool:=match Ww P t with
 |some ks=>bif dU ks a&&dU ks b then dC a b else none
 |none=>none
def LJ (d:TypeDesc)(y:Operand)(x:zS):Option Bool:=match d,y,x with
 |.slice _,.const (.slice none 0 0),.nsl=>some true
 |.slice _,.const (.slice none 0 0),.nfl _ _ _=>some false
 |.pointer _,.const (.pointer none),.nilp=>some true
 |.pointer _,.const (.pointer none),.ptr _ _|.pointer _,.const (.pointer none),.eptr _ _ _|.pointer _,.const (.pointer none),.fptr _ _ _ _=>some false
 |.func _ _ _,.const .nilFunc,.nilf=>some true
 |.func _ _ _,.const .nilFunc,.fn _ _=>some false
 |.map _ _,.const (.map none),.nilm=>some true
 |.map _ _,.const (.map none),.map _=>some false
 |_,_,_=>none
def CH:BinOp→Bool→Bool
 |.eql,b=>b
 |_,b=> !b
def Wx:BinOp→Bool
 |.eql|.neq=>true
 |_=>false
def Wy:Operand→Bool
 |.const (.slice none 0 0)|.const (.pointer none)|.const .nilFunc|.const (.map none)=>true
 |_=>false
def kY (xs:List Int):List UInt8:=xs.map fun n=>UInt8.ofNat n.toNat
def tn (xs ys:List Int):Bool:=kY xs==kY ys
def GO (P:Program)(t:TypeId):Bool:=match P.underlying t with
 |some .bool=>true
 |_=>false
def LK (P:Program)(eqT:TypeId→Bool)(op:BinOp)(eJ:TypeId)(ox oy:Operand)(x y:zQ):yI:=match op,x,y with
 |.shl,.c (.int k a),.c (.int _ b)|.shr,.c (.int k a),.c (.int _ b)=>Wv op k a b
 |_,.c (.int k a),.c (.int j b)=>bif dB k j then Wu op k a b else .stuck
 |.eql,.c (.bool a),.c (.bool b)=>bif GO P eJ then .one (.c (.bool (kh a b))) else .stuck
 |.neq,.c (.bool a),.c (.bool b)=>bif GO P eJ then .one (.c (.bool (!kh a b))) else .stuck
 |.eql,.c (.str a),.c (.str b)=>.one (.c (.bool (tn a b)))
 |.neq,.c (.str a),.c (.str b)=>.one (.c (.bool (!tn a b)))
 |.eql,.agg a,.agg b=>bif eqT eJ then(match GN P eJ a b with|some r=>.one (.c (.bool r))|none=>.stuck) else .stuck
 |.neq,.agg a,.agg b=>bif eqT eJ then(match GN P eJ a b with|some r=>.one (.c (.bool (!r)))|none=>.stuck) else .stuck
 |_,_,_=>.stuck
def LL (op:UnOp)(x:zQ):yI:=match op,x with
 |.not,.c (.bool b)=>.one (.c (.bool (!b)))
 |.neg,.c (.int k n)=>.one (.c (.int k (k.wrap (0-n))))
 |_,_=>.stuck
def gd (h:Hp):zS→Option ((t:Ty)×List t.den)
 |.fsl _ t xs=>some ⟨t,xs⟩
 |.osl id r=>match h id with
  |some (.arr _ t xs)=>some ⟨t,fI xs r⟩
  |some (.mat _ xs)=>match r with
   |none=>some ⟨.sl (.int .i64),xs⟩
   |some _=>none
  |_=>none
 |.mrow id i ver=>match h id with
  |some (.mat v xs)=>bif Nat.beq v ver then some ⟨.int .i64,xs.getD i []⟩ else none
  |_=>none
 |_=>none
def wq (h:Hp):zS→Option (List Int)
 |.nsl=>some []
 |c=>match gd h c with
  |some ⟨.int .u8,xs⟩=>some xs
  |_=>none
def wu (h:Hp)(v:zS):Option Nat:=match v with
 |.nsl=>some 0
 |.bsl _ _ n=>some n
 |v=>match gd h v with
  |some ⟨_,xs⟩=>some xs.length
  |none=>none
def kZ (h:Hp):zS→Option (zS×yR)
 |.osl id r=>match h id with
  |some (.arr _ t xs)=>some (.fsl true t (fI xs r),[(id,.arr false t xs)])
  |some (.mat _ xs)=>match r with
   |none=>some (.fsl true (.sl (.int .i64)) xs,[(id,.arr false (.sl (.int .i64)) xs)])
   |some _=>none
  |_=>none
 |.mrow _ _ _=>none
 |v=>some (v,[])
def ki (h:Hp):List zS→Option (List zS×yR)
 |[]=>some ([],[])
 |v::vs=>match kZ h v,ki h vs with
  |some (v,u),some (vs,us)=>some (v::vs,u++us)
  |_,_=>none
def zD (i:Int)(n:Nat):Bool:=decide (0≤i)&&decide (i<(n:Int))
def wv (i:Int)(mk:Nat→zS):Nat→Nat→List (Bool×zQ×yR)
 |_,0=>[]
 |j,n+1=>(decide (i=(j:Int)),.c (mk j),[])::wv i mk (j+1) n
def CI (P:Program)(t:TypeId)(cells:List zS)(off:Nat):yI:=.ofO ((ja cells off (P.cellsOf t)).bind (mU (jE P t)))
def wx (P:Program)(h:Hp)(t:TypeId)(a:zQ):yI:=
 match a with
 |.c (.ptr id off)=>match h id with
  |some (.box _ cells)=>CI P t cells off
  |some (.robox cells)=>CI P t cells off
  |_=>.stuck
 |.c (.fptr sh ty x off)=>CI P t (cellsOf sh ty x) off
 |.c (.eptr id i off)=>match h id with
  |some (.arr _ ty xs)=>CI P t (cellsOf true ty (xs.getD i ty.dflt)) off
  |_=>.stuck
 |.c (.mptr id i)=>match h id with
  |some (.mat ver _)=>match jE P t with|some false=>.one (.c (.mrow id i ver))|_=>.stuck
  |_=>.stuck
 |.c (.meptr id i j ver)=>match h id with
  |some (.mat v xs)=>bif Nat.beq v ver then(match jE P t with|some false=>.one (.c (.int .i64 ((xs.getD i []).getD j 0)))|_=>.stuck) else .stuck
  |_=>.stuck
 |_=>.stuck
def wy (P:Program)(h:Hp)(t:TypeId)(a v:zQ):yI:=
 match kX v with
 |none=>.stuck
 | some vs => bif Nat.beq vs.length (P.cellsOf t) && Nat.blt 0 vs.length then (match a with
  |.c (.ptr id off)=>match h id with
   |some (.box true cells)=>match tj cells off vs with
    |some cells=>.alts [(true,.undef,[(id,.box true cells)])]
    |none=>.stuck
   |_=>.stuck
  |.c (.eptr id i off)=>match h id,ki h vs with
   |some (.arr true ty xs),some (vs,u)=>match oE ty (xs.getD i ty.dflt) off vs with
    |some x=>bif u.any (fun p=>Nat.beq p.1 id) then .stuck else .alts [(true,.undef,u++[(id,.arr true ty (xs.set i x))])]
    |none=>.stuck
   |_,_=>.stuck
  |.c (.mptr id i)=>match h id,v with
   |some (.mat ver xs),.c (.osl jd none)=>match h jd with
    |some (.arr true (.int .i64) ys)=>.alts [(true,.undef,[(jd,.gone),(id,.mat (ver+1) (xs.set i ys))])]
    |_=>.stuck
   |some (.pmat ver xs n),.c (.osl jd none)=>match h jd with
    |some (.arr true (.int .i64) ys)=>.alts [(Nat.beq i xs.length,.undef,[(jd,.gone),(id,.pmat (ver+1) (xs++[ys]) n)])]
    |_=>.stuck
   |_,_=>.stuck
  |.c (.meptr id i j ver)=>match h id,v with
   |some (.mat v xs),.c (.int .i64 n)=>bif Nat.beq v ver then .alts [(true,.undef,[(id,.mat v (xs.set i ((xs.getD i []).set j n)))])] else .stuck
   |_,_=>.stuck
  |_=>.stuck) else .stuck
def LM (P:Program)(s:TypeId)(a:zQ)(f:Nat):yI:=match P.underlying s with
 |some (.struct fs)=>match fs[f]? with
  | some fd => bif Nat.beq (P.cellsOf fd.type) 0 then .stuck else (match a with
   |.c (.ptr id off)=>.one (.c (.ptr id (off+fd.offset)))
   |.c (.eptr id i off)=>.one (.c (.eptr id i (off+fd.offset)))
   |.c (.fptr sh t x off)=>.one (.c (.fptr sh t x (off+fd.offset)))
   |_=>.stuck)
  |none=>.stuck
 |_=>.stuck
def wz (P:Program)(h:Hp)(t:TypeId)(x i:zQ):yI:=match P.underlying t,x,i with
 |some (.slice e),.c v,.c (.int _ i)=>match v with
  |.fsl sh ty xs=>bif Nat.beq (P.cellsOf e) ty.size then .when (zD i xs.length) (.c (.fptr sh ty (xs.getD i.toNat ty.dflt) 0)) else .stuck
  |.osl id r=>match h id with
   | some (.arr _ ty xs) => bif Nat.beq (P.cellsOf e) ty.size then (match r with
    |none=>.when (zD i xs.length) (.c (.eptr id i.toNat 0))
    |some (lo,n)=>.when (zD i n) (.c (.eptr id (lo+i.toNat) 0))) else .stuck
   | some (.mat _ xs) => bif Nat.beq (P.cellsOf e) 1 then (match r with
    |none=>.when (zD i xs.length) (.c (.mptr id i.toNat))
    |some _=>.stuck) else .stuck
   | some (.pmat _ _ n) => bif Nat.beq (P.cellsOf e) 1 then (match r with
    |none=>.when (zD i n) (.c (.mptr id i.toNat))
    |some _=>.stuck) else .stuck
   |_=>.stuck
  | .mrow id j ver => bif Nat.beq (P.cellsOf e) 1 then (match h id with
   |some (.mat v xs)=>bif Nat.beq v ver then .when (zD i (xs.getD j []).length) (.c (.meptr id j i.toNat ver)) else .stuck
   |_=>.stuck) else .stuck
  |_=>.stuck
 |some (.array n e),.c (.ptr id off),.c (.int _ i)=>bif Nat.beq (P.cellsOf e) 0 then .stuck else .alts (wv i (fun j=>.ptr id (off+j*P.cellsOf e)) 0 n)
 |some (.array n e),.c (.eptr id q off),.c (.int _ i)=>bif Nat.beq (P.cellsOf e) 0 then .stuck else .alts (wv i (fun j=>.eptr id q (off+j*P.cellsOf e)) 0 n)
 |some (.array n e),.c (.fptr sh t x off),.c (.int _ i)=>bif Nat.beq (P.cellsOf e) 0 then .stuck else .alts (wv i (fun j=>.fptr sh t x (off+j*P.cellsOf e)) 0 n)
 |_,_,_=>.stuck
def LN (P:Program)(t:TypeId)(x i:zQ):yI:=match P.underlying t,x,i with
 |some (.array n e),.agg cs,.c (.int _ i)=>bif Nat.beq (P.cellsOf e) 1&&(match jE P e with|some false=>true|_=>false)&&Nat.beq cs.length n
   then .alts (wv i (fun j=>cs.getD j .undef) 0 n) else .stuck
 |_,_,_=>.stuck
def LO (P:Program)(s:TypeId)(x:zQ)(f:Nat):yI:=match P.underlying s,x with
 |some (.struct fs),.agg cs=>match fs[f]? with
  |some fd=>match ja cs fd.offset (P.cellsOf fd.type) with
   |some vs=>.ofO (mU (jE P fd.type) vs)
   |none=>.stuck
  |none=>.stuck
 |_,_=>.stuck
def CJ (place:Nat→Option (Nat×Nat))(cells:List zS):List (Nat×zQ)→Option (List zS)
 |[]=>some cells
 |(i,v)::rest=>match place i,kX v with
  | some (off, size), some vs => bif Nat.beq vs.length size && Nat.ble (off + size) cells.length then (match tj cells off vs with
   |some cells=>CJ place cells rest
   |none=>none) else none
  |_,_=>none
def LP (P:Program)(t:TypeId)(parts:List (Nat×zQ)):yI:=match zeroCells P t with
 |none=>.stuck
 |some zero=>match P.underlying t with
  | some (.struct fs) => bif fs.toList.all (fun f => (P.info? f.type).isSome) then (match CJ (fun i=>(fs[i]?).map fun f=>(f.offset,P.cellsOf f.type)) zero parts with
   |some cells=>.one (.agg cells)
   |none=>.stuck) else .stuck
  | some (.array _ e) => bif (P.info? e).isSome then (match CJ (fun i=>some (i*P.cellsOf e,P.cellsOf e)) zero parts with
   |some cells=>.one (.agg cells)
   |none=>.stuck) else .stuck
  |_=>.stuck
def tp (h:Hp):zQ→Option (List Int×yR)
 |.c (.osl jd none)=>match h jd with
  |some (.arr true (.int .i64) ys)=>some (ys,[(jd,.gone)])
  |_=>none
 |.c .nsl=>some ([],[])
 |_=>none
def tq (h:Hp)(rows:List (List Int)):List (Nat×zQ)→Option (List (List Int)×yR)
 |[]=>some (rows,[])
 |(i,v)::rest=>match tp h v with
  |some (r,u)=>match tq h (rows.set i r) rest with
   |some (rows,us)=>some (rows,u++us)
   |none=>none
  |none=>none
def mV (h:Hp)(t:Ty)(xs:List t.den):List (Nat×zQ)→Option (List t.den×yR)
 |[]=>some (xs,[])
 |(i,v)::rest=>match kX v with
  |some vs=>match ki h vs with
   |some (vs,u)=>match CF t vs with
    |some x=>match mV h t (xs.set i x) rest with
     |some (xs,us)=>some (xs,u++us)
     |none=>none
    |none=>none
   |none=>none
  |none=>none
def oF:List Nat→Bool
 |[]=>true
 |a::l=> !(l.any (Nat.beq a))&&oF l
def w6 (P:Program)(mat:Bool)(nm:Nat)(h:Hp)(t:TypeId)(n:Nat)(parts:List (Nat×zQ)):yI:=
 match P.underlying t,h nm with
 |some (.slice e),none=>bif Nat.ble (n*P.cellsOf e) 16777216 then
   (bif mat then (match gb P e,tq h (List.replicate n []) parts with
    |some (.sl (.int .i64)),some (rows,u)=>bif oF (u.map (·.1))&&parts.all (fun p=>Nat.blt p.1 n) then .alts [(true,.c (.osl nm none),u++[(nm,.mat 0 rows)])] else .stuck
    |_,_=>.stuck)
   else (match gb P e with
    |some ty=>match mV h ty (List.replicate n ty.dflt) parts with
     |some (xs,u)=>bif parts.all (fun p=>Nat.blt p.1 n) then .alts [(true,.c (.osl nm none),u++[(nm,.arr true ty xs)])] else .stuck
     |none=>.stuck
    |none=>.stuck)) else .stuck
 |_,_=>.stuck
def w7 (P:Program)(mat:Bool)(nm:Nat)(h:Hp)(t:TypeId)(l c:zQ):yI:=
 match P.underlying t,h nm,l,c with
 |some (.slice e),none,.c (.int .i64 l),.c (.int .i64 c)=>
   let ok:=decide (0≤l)&&decide (l≤c)&&decide (c*(P.bytesOf e:Int)≤140737488355328)&&decide (c≤140737488355328)
   bif mat then (match gb P e with
    |some (.sl (.int .i64))=>.alts [(ok,.c (.osl nm none),[(nm,.mat 0 (List.replicate l.toNat []))])]
    |_=>.stuck)
   else (match gb P e with
    |some ty=>.alts [(ok,.c (.osl nm none),[(nm,.arr true ty (List.replicate l.toNat ty.dflt))])]
    |none=>.stuck)
 |_,_,_,_=>.stuck
def CK (P:Program)(t:TypeId):Bool:=match P.underlying t with
 | some (.map k e) => (match P.underlying k,(P.info? e).bind (·.zero) with
  |some (.int .i64),some (.bool false)=>true
  |_,_=>false)
 |_=>false
def w8 (P:Program)(nm:Nat)(h:Hp)(t:TypeId):yI:=
 match h nm with
 |none=>bif CK P t then .alts [(true,.c (.map nm),[(nm,.imap [])])] else .stuck
 |some _=>.stuck
def w9 (P:Program)(h:Hp)(t:TypeId)(x i:zQ):yI:=
 match x,i with
 | .c (.map id), .c (.int .i64 n) => (match h id with
  |some (.imap cj)=>bif CK P t then .one (.c (.bool ((cj.lookup n).getD false))) else .stuck
  |_=>.stuck)
 |_,_=>.stuck
def xa (P:Program)(h:Hp)(t:TypeId)(x i v:zQ):yI:=
 match x,i,v with
 | .c (.map id), .c (.int .i64 n), .c (.bool b) => (match h id with
  |some (.imap cj)=>bif CK P t then .alts [(true,.undef,[(id,.imap ((n,b)::cj))])] else .stuck
  |_=>.stuck)
 |_,_,_=>.stuck
def qq (len:Nat)(lo hi:Option zQ):Option (Bool×Nat×Nat):=
 match lo,hi with
 |none,none=>some (true,0,len)
 |some (.c (.int _ l)),none=>some (decide (0≤l)&&decide (l≤(len:Int)),l.toNat,len)
 |none,some (.c (.int _ u))=>some (decide (0≤u)&&decide (u≤(len:Int)),0,u.toNat)
 |some (.c (.int _ l)),some (.c (.int _ u))=>some (decide (0≤l)&&decide (l≤u)&&decide (u≤(len:Int)),l.toNat,u.toNat)
 |_,_=>none
def tt:List zS→Option (List Int)
 |[]=>some []
 |.int .i64 n::l=>match tt l with|some r=>some (n::r)|none=>none
 |_=>none
def LQ (len:Nat):Option (Nat×Nat)→Option zQ→Nat
 |none,_=>len
 |some p,none=>p.2
 |some p,some _=>len-p.1
def xc (P:Program)(h:Hp)(t:TypeId)(x:zQ)(lo hi mx:Option zQ):yI:=
 match P.underlying t,mx,x with
 | some (.slice e), none, .c (.fsl sh ty xs) => bif Nat.beq (P.cellsOf e) ty.size then (match qq xs.length lo hi with
  | some (ok, l, u) => .when ok (.c (.fsl sh ty (match lo,hi with
   |none,none=>xs
   |some _,none=>xs.drop l
   |none,some _=>xs.take u
   |some _,some _=>qS xs l (u-l))))
  |none=>.stuck) else .stuck
 |some (.slice e),none,.c (.osl id r)=>match h id with
  | some (.arr _ ty xs) => bif Nat.beq (P.cellsOf e) ty.size then (match qq (LQ xs.length r hi) lo hi with
   |some (ok,l,u)=>.when ok (.c (.osl id (some ((match r with|none=>0|some p=>p.1)+l,u-l))))
   |none=>.stuck) else .stuck
  |_=>.stuck
 |some (.slice e),some (.c (.int _ m)),.c (.osl id none)=>match h id with
  | some (.arr _ ty xs) => bif Nat.beq (P.cellsOf e) ty.size then (match lo,hi,qq xs.length lo hi with
   |some _,some _,some (ok,_,u)=>.when (ok&&decide ((u:Int)≤m)&&decide (m≤(xs.length:Int))) (.c .undef)
   |_,_,_=>.stuck) else .stuck
  |_=>.stuck
 | some (.array n e), none, .c (.ptr id off) => bif Nat.beq (P.cellsOf e) 1 then (match h id with
  |some (.box own cells)=>match lo,hi with
   |none,none=>bif Nat.ble (off+n) cells.length then .one (.c (.bsl id off n)) else .stuck
   |_,_=>match ja cells off n with
    |some vs=>match tt vs,qq n lo hi with
     |some ns,some (ok,l,u)=>.alts [(ok,.c (.fsl true (.int .i64) (qS ns l (u-l))),bif own then[(id,.box false cells)] else[])]
     |_,_=>.stuck
    |none=>.stuck
  |_=>.stuck) else .stuck
 |_,_,_=>.stuck
def oG (h:Hp)(t:Ty):zS→Option (List t.den×yR)
 |.nsl=>some ([],[])
 |.fsl sh s xs=>bif sh||s.flat then(eG s t xs).map (·,[]) else none
 |.nfl sh s xs=>bif sh||s.flat then(eG s t xs).map (·,[]) else none
 |.osl id r=>match h id with
  |some (.arr _ s xs)=>(eG s t (fI xs r)).map (·,[])
  |_=>none
 |_=>none
def xd (P:Program)(mat:Bool)(nm:Nat)(h:Hp)(t:TypeId)(b x:zQ):yI:=
 match P.underlying t,h nm,b,x with
 |some (.slice e),none,.c b,.c x=>match gb P e with
  |none=>.stuck
  |some ty=>
   let room (n:Nat):Bool:=Nat.ble (n*P.bytesOf e) 140737488355328&&Nat.ble n 140737488355328
   bif mat then (match ty,b,x with
    |.sl (.int .i64),.osl id none,.osl jd none=>match h id,h jd with
     |some (.mat _ xs),some (.mat _ ys)=>bif Nat.beq id jd then .stuck else
       .alts [(room (xs.length+ys.length),.c (.osl nm none),[(id,.gone),(jd,.gone),(nm,.mat 0 (xs++ys))])]
     |_,_=>.stuck
    |_,_,_=>.stuck)
   else (match b with
    |.nsl=>match oG h ty x with
     |some (ys,u)=>.alts [(room ys.length,.c (.osl nm none),u++[(nm,.arr true ty ys)])]
     |none=>.stuck
    |.osl id r=>match h id with
     |some (.arr true s eK)=>match eG s ty (fI eK r),oG h ty x with
      | some xs, some (ys, u) => (match r with
       | some (0, _) | none => (bif (match x with | .osl jd _ => Nat.beq id jd | _ => false) then (match r,x,eG s ty eK with
         |some (0,i),.osl _ (some (j,m)),some zs=>.alts [(Nat.ble i j,.c (.osl nm (some (0,i+m))),[(id,.gone),(nm,.arr true ty (zs.take i++qS zs j m++zs.drop (i+m)))])]
         |_,_,_=>.stuck) else
         .alts [(room (xs.length+ys.length),.c (.osl nm none),u++[(id,.gone),(nm,.arr true ty (xs++ys))])])
       |_=>.stuck)
      |_,_=>.stuck
     |_=>.stuck
    |_=>.stuck)
 |_,_,_,_=>.stuck
def tu (xs:List Int):Nat→List zS→List zS
 |_,[]=>[]
 |i,.int .i64 n::cs=>.int .i64 (bif Nat.blt i xs.length then xs.getD i 0 else n)::tu xs (i+1) cs
 |i,c::cs=>c::tu xs (i+1) cs
def xe (h:Hp)(d s:zQ):yI:=match d,s with
 |.c (.bsl id off n),.c s=>match h id,(match s with|.nsl=>some ⟨.int .i64,[]⟩|s=>gd h s:Option ((t:Ty)×List t.den)) with
  |some (.box true cells),some ⟨.int .i64,ys⟩=>match ja cells off n with
   |some vs=>match tt vs with
    |some _=>.alts [(true,.c (.int .i64 ((min ys.length n:Nat):Int)),[(id,.box true (cells.take off++tu ys 0 vs++cells.drop (off+n)))])]
    |none=>.stuck
   |none=>.stuck
  |_,_=>.stuck
 |_,_=>.stuck
def GP (P:Program)(h:Hp)(t:TypeId)(id lo n:Nat):yI:=match P.underlying t,h id with
 |some (.slice e),some (.arr true s xs)=>match gb P e with
  |some ty=>bif mT ty s then .alts [(true,.undef,[(id,.arr true s (xs.take lo++List.replicate n s.dflt++xs.drop (lo+n)))])] else .stuck
  |none=>.stuck
 |_,_=>.stuck
def GQ (lt:Bool):List zQ→yI
 |[.c (.int k x),.c (.int _ y)]=>.one (.c (.int k (bif lt then(bif decide (y<x) then y else x) else(bif decide (y>x) then y else x))))
 |[.c (.int k x),.c (.int _ y),.c (.int _ z)]=>
  let m (a b:Int):Int:=bif lt then(bif decide (b<a) then b else a) else(bif decide (b>a) then b else a)
  .one (.c (.int k (m (m x y) z)))
 |_=>.stuck
abbrev GR:=Nat→Nat→Nat→List zQ→Hp→yI
inductive CS where
 |int (k:IntKind)|bool|dat (sh:Bool) (t:Ty)|lit (v:zS)
inductive VS where
 |c (x:CS)|agg (l:List CS)
inductive OS where
 |box (own:Bool) (l:List CS)|robox (l:List CS)|arr (own:Bool) (t:Ty)|mat|pmat|imap
abbrev SL:List CS→Type
 |[]=>Unit
 |.int _::l=>Int×SL l
 |.bool::l=>Bool×SL l
 |.dat _ t::l=>List t.den×SL l
 |.lit _::l=>SL l
def VS.cells:VS→List CS
 |.c x=>[x]
 |.agg l=>l
abbrev SV:List (Nat×VS)→Type
 |[]=>Unit
 |s::l=>SL s.2.cells×SV l
abbrev OS.den:OS→Type
 |.box _ l=>SL l
 |.robox l=>SL l
 |.arr _ t=>List t.den
 |.mat=>List (List Int)
 |.pmat=>List (List Int)×Nat
 |.imap=>List (Int×Bool)
abbrev OL:List OS→Type
 |[]=>Unit
 |o::l=>o.den×OL l
structure zG where
 slots:List (Nat×VS)
 objs:List OS
 grow:List (Nat×Option Nat×Ty×Bool)
abbrev zG.den (S:zG):Type:=SV S.slots×OL S.objs
def GS:List Nat→List Nat→Bool
 |[],[]=>true
 |a::l,b::m=>Nat.beq a b&&GS l m
 |_,_=>false
def LR:zS→zS→Bool
 |.undef,_=>true
 |.nsl,.nsl|.nilp,.nilp|.nilf,.nilf|.nilm,.nilm=>true
 |.osl a none,.osl b none=>Nat.beq a b
 |.bsl a i n,.bsl b j m=>Nat.beq a b&&Nat.beq i j&&Nat.beq n m
 |.ptr a i,.ptr b j=>Nat.beq a b&&Nat.beq i j
 |.fn f c,.fn g d=>Nat.beq f g&&GS c d
 |.map a,.map b=>Nat.beq a b
 |_,_=>false
def jb:(l:List CS)→List zS→Option (SL l)
 |[],[]=>some ()
 |.int k::l,.int j n::vs=>bif dB j k then(match jb l vs with|some d=>some (n,d)|none=>none) else none
 |.bool::l,.bool b::vs=>match jb l vs with|some d=>some (b,d)|none=>none
 | .dat sh t :: l, .fsl CL s xs :: vs => bif CL || !sh then (match eG s t xs,jb l vs with
  |some xs,some d=>some (xs,d)
  |_,_=>none) else none
 |.dat _ _::l,.nsl::vs=>match jb l vs with|some d=>some ([],d)|none=>none
 |.lit c::l,v::vs=>bif LR c v then jb l vs else none
 |_,_=>none
def LS (v:VS)(a:zQ):Option (SL v.cells):=match v,a with
 |.c x,.c y=>jb [x] [y]
 |.agg l,.agg vs=>jb l vs
 |_,_=>none
def GU (o:OS)(x:Obj):Option o.den:=match o,x with
 |.box own l,.box kj cells=>bif own==kj then jb l cells else none
 |.robox l,.robox cells=>jb l cells
 |.arr own t,.arr kj s xs=>bif own==kj then eG s t xs else none
 |.mat,.mat _ xs=>some xs
 |.pmat,.pmat _ xs n=>some (xs,n)
 |.imap,.imap cj=>some cj
 |_,_=>none
def l5:(l:List CS)→SL l→List zS
 |[],_=>[]
 |.int k::l,d=>.int k d.1::l5 l d.2
 |.bool::l,d=>.bool d.1::l5 l d.2
 |.dat sh t::l,d=>.fsl sh t d.1::l5 l d.2
 |.lit c::l,d=>c::l5 l d
def LU (v:VS)(d:SL v.cells):zQ:=match v,d with
 |.c x,d=>match l5 [x] d with|c::_=>.c c|[]=>.undef
 |.agg l,d=>.agg (l5 l d)
def GV (o:OS)(d:o.den):Obj:=match o,d with
 |.box own l,d=>.box own (l5 l d)
 |.robox l,d=>.robox (l5 l d)
 |.arr own t,xs=>.arr own t xs
 |.mat,xs=>.mat 0 xs
 |.pmat,d=>.pmat 0 d.1 d.2
 |.imap,cj=>.imap cj
def xf:(l:List (Nat×VS))→SV l→List (Nat×zQ)
 |[],_=>[]
 |s::l,d=>(s.1,LU s.2 d.1)::xf l d.2
def oH:(l:List OS)→OL l→List Obj
 |[],_=>[]
 |o::l,d=>GV o d.1::oH l d.2
def zP (base:Nat)(S:zG)(d:S.den):St:=
  { t:=fun n=>match(xf S.slots d.1).lookup n with|some v=>v|none=>.undef,
    h:=fun n=>bif Nat.ble base n then(oH S.objs d.2)[n-base]? else none}
inductive Ex where
 |normal|ret|exit (id:Nat)
def LV:Ex→Ex→Bool
 |.normal,.normal|.ret,.ret=>true
 |.exit a,.exit b=>Nat.beq a b
 |_,_=>false
abbrev qs:List (Ex×zG)→Type
 |[]=>Empty
 |[p]=>p.2.den
 |p::q::l=>p.2.den⊕qs (q::l)
abbrev mW:List zG→Type
 |[]=>Empty
 |[S]=>S.den
 |S::T::l=>S.den⊕mW (T::l)
structure qA where
 ins:List zG
 outs:List (Ex×zG)
 X:Type
 sum:Nat→mW ins→Option X
 elim:Nat→X→(R:Type)→(Ex→St→Option R)→Option R
structure qB where
 mats:List Nat
 loops:List (Nat×qA)
 unr:List (Nat×Nat)
 wise:Bool
structure Env where
 P:Program
 eqT:TypeId→Bool
 sums:GR
def mX (pre:Nat):Option Nat→Nat
 |some d=>pre+100*(d+1)
 |none=>pre
def qt:zQ→Option Nat
 |.c (.ptr id 0)=>some id
 |_=>none
def LW (P:Program)(mat:Bool)(nm:Nat)(h:Hp)(b:Builtin)(ts:Array TypeId)(l:List zQ):yI:=match b with
 |.len=>match l with
  |[.c v]=>match(ts[0]?).bind P.underlying with
   |some (.slice _)=>match wu h v with
    |some n=>.one (.c (.int .i64 (n:Int)))
    |none=>.stuck
   |_=>.stuck
  |_=>.stuck
 |.append=>match l with
  |[b,x]=>match ts.toList with
   |[t,u]=>bif Nat.beq t u then xd P mat nm h t b x else .stuck
   |_=>.stuck
  |_=>.stuck
 |.copy=>match l with
  |[d,s]=>match(ts[0]?).bind P.underlying with
   |some (.slice e)=>bif Nat.beq (P.cellsOf e) 1 then xe h d s else .stuck
   |_=>.stuck
  |_=>.stuck
 |.clear=>match l with
  |[.c (.osl id (some (lo,n)))]=>match ts[0]? with
   |some t=>GP P h t id lo n
   |none=>.stuck
  |_=>.stuck
 |.max=>GQ false l
 |.min=>GQ true l
 |_=>.stuck
def gU (E:Env)(A:qB)(k pre:Nat)(o:Oper)(ev:Operand→zQ)(h:Hp):yI:=
 let nm:=mX pre o.dst
 let mat:=match o.dst with|some d=>A.mats.any (Nat.beq d)|none=>false
 match o.op with
 |.move x|.assign x=>.one (ev x)
 |.pick c a b=>match ev c with
  |.c (.bool c)=>match ev a,ev b with
   |.c (.bool a),.c (.bool b)=>.one (.c (.bool (bif c then a else b)))
   |va,vb=>.alts [(c,va,[]),(true,vb,[])]
  |_=>.stuck
 |.alloc t=>match h nm,zeroCells E.P t with
  |none,some zs=>.alts [(true,.c (.ptr nm 0),[(nm,.box true zs)])]
  |_,_=>.stuck
 |.box t x=>match h nm,kX (ev x) with
  |none,some vs=>.alts [(true,.c (.ptr nm 0),[(nm,.box (!mat) vs)])]
  |_,_=>.stuck
 |.build t parts=>LP E.P t (parts.toList.map fun p=>(p.1,ev p.2))
 |.buildSlice t n parts=>w6 E.P mat nm h t n (parts.toList.map fun p=>(p.1,ev p.2))
 |.load t a=>wx E.P h t (ev a)
 |.store t a v=>wy E.P h t (ev a) (ev v)
 |.nilCheck x=>match ev x with
  |.c (.ptr a b)=>.one (.c (.ptr a b))
  |.c (.eptr a b c)=>.one (.c (.eptr a b c))
  |.c (.fptr s t x off)=>.one (.c (.fptr s t x off))
  |.c (.fn f c)=>.one (.c (.fn f c))
  |_=>.stuck
 |.binOp op t x y _=>
  bif Wy y && Wx op then (match E.P.underlying t,ev x with
   |some d,.c v=>match LJ d y v with
    |some b=>.one (.c (.bool (CH op b)))
    |none=>.stuck
   |_,_=>.stuck)
  else LK E.P E.eqT op t x y (ev x) (ev y)
 |.unOp op _ x=>LL op (ev x)
 |.convert s d x=>match E.P.underlying s,E.P.underlying d,ev x with
  |some (.int _),some (.int k),.c (.int _ n)=>.one (.c (.int k (k.wrap n)))
  |some (.slice e),some .string,.c c=>match E.P.underlying e,wq h c with
   |some (.int .u8),some xs=>.one (.c (.str xs))
   |_,_=>.stuck
  |_,_,_=>.stuck
 | .makeFunc (.func f) first captured => bif Nat.beq first.size 0 then (match captured.toList.mapM (fun x=>qt (ev x)) with
   |some ids=>.one (.c (.fn f ids))
   |none=>.stuck) else .stuck
 |.makeSlice t l c=>w7 E.P mat nm h t (ev l) (ev c)
 |.makeMap t none=>w8 E.P nm h t
 |.lookup t x i false=>w9 E.P h t (ev x) (ev i)
 |.mapUpdate t x i y=>xa E.P h t (ev x) (ev i) (ev y)
 |.slice t x lo hi mx=>xc E.P h t (ev x) (lo.map ev) (hi.map ev) (mx.map ev)
 |.fieldAddr t x f=>LM E.P t (ev x) f
 |.field t x f=>LO E.P t (ev x) f
 |.indexAddr t x i=>wz E.P h t (ev x) (ev i)
 |.index t x i=>LN E.P t (ev x) (ev i)
 |.extract t i=>match ev t with
  |.tup xs=>match xs[i]? with
   |some (g,vs)=>.ofO (mU (some g) vs)
   |none=>.stuck
  |_=>.stuck
 |.call c=>match c.callee with
  |.builtin b=>LW E.P mat nm h b c.argTypes (c.args.toList.map ev)
  |.value f=>match ev f with
   |.c (.fn f cap)=>E.sums k nm f (c.args.toList.map ev++cap.map fun id=>.c (.ptr id 0)) h
   |_=>.stuck
  |_=>.stuck
 |_=>.stuck
structure xg where
 i:Nat
 nm:Nat
 upd:List Nat
 refs:Option (List Nat)
def yY:zS→List Nat
 |.osl id _|.bsl id _ _|.ptr id _|.eptr id _ _|.mrow id _ _|.mptr id _|.meptr id _ _ _|.map id=>[id]
 |.fn _ cap=>cap
 |_=>[]
def yG:zQ→List Nat
 |.c v=>yY v
 |.agg vs=>vs.flatMap yY
 |.tup xs=>xs.flatMap fun x=>x.2.flatMap yY
 |_=>[]
def vX:zQ→Bool
 |.c (.ptr _ _)|.c (.map _)|.c (.eptr _ _ _)|.c (.mptr _ _)|.c (.meptr _ _ _ _)|.c (.bsl _ _ _)=>true
 |.c (.fn _ cap)=> !cap.isEmpty
 |_=>false
def LX:Op→Bool
 |.call {callee:=.value _,..}=>true
 |_=>false
def Wz:Op→Bool
 |.move _|.assign _|.nilCheck _|.fieldAddr _ _ _|.field _ _ _|.extract _ _=>true
 |_=>false
def mY (ev:Operand→zQ)(o:Oper):Option (List Nat):=bif Wz o.op then some [] else
 let vals:=o.op.operands.toList.map ev
 bif LX o.op&&vals.any vX then none else some (vals.flatMap yG)
def GW (a:List Nat):Option (List Nat)→Bool
 |none=> !a.isEmpty
 |some b=>a.any fun x=>b.any (Nat.beq x)
def kk (nm a:Nat):Bool:=Nat.ble nm a&&Nat.blt a (nm+100)
def oI (x y:xg):Bool:=GW x.upd y.refs||GW y.upd x.refs||x.upd.any (kk y.nm)||y.upd.any (kk x.nm)||x.upd.any fun a=>y.upd.any (Nat.beq a)
def kl (b:Array Nat)(i j:Nat):Bool:=(b.getD j 0).testBit i
def oJ (ops:Array Oper)(i j:Nat):Bool:=match ops[i]?,ops[j]? with
 |some x,some y=>x.apart ops y
 |_,_=>false
def CM (ops:Array Oper):Bool:=ops.toList.zipIdx.all fun p=>p.1.after.toList.all fun e=> !Region.binds .any e||Nat.blt e.on p.2
def qu (na nt:Nat):Option Nat→Bool
 |some d=>Nat.ble na d&&Nat.blt d nt
 |none=>true
def jO (u:yR):List Nat:=u.map (·.1)
section
variable (E:Env) (A:qB) (k pre na nt:Nat) {R:Type}
def GX (o:Oper)(st:St)(K:zQ→yR→St→Option R):Option R:=
 bif qu na nt o.dst then
  (gU E A k pre o st.ev st.h).elim fun v u=>K v u {t:=fH st.t o.dst v,h:=qC st.h u}
 else none
def GY (ops:Array Oper)(j:Nat):Option Nat:=(ops[j]?).bind (·.dst)
def GZ (ops:Array Oper)(o:Oper)(st:St)(yes no:St→Option R):Option R:=match o.guard with
 |none=>yes st
 |some (j,want)=>match GY ops j with
  |none=>none
  |some s=>match st.t s with
   |.c (.bool b)=>bif b then(let st:={st with t:=wX st.t s (.c (.bool true))};bif want then yes st else no st)
     else(let st:={st with t:=wX st.t s (.c (.bool false))};bif want then no st else yes st)
   |.skp=>no st
   |_=>none
def G0 (ops:Array Oper):List (Nat×Oper)→St→(St→Option R)→Option R
 |[],st,K=>K st
 |(_,o)::rest,st,K=>GZ ops o st
   (fun st=>GX E A k pre na nt o st fun _ _ st=>G0 ops rest st K)
   (fun st=>bif qu na nt o.dst then G0 ops rest {st with t:=fH st.t o.dst .skp} K else none)
def xh (ops:Array Oper)(b:Array Nat):List (Nat×Oper)→List xg→St→(St→Option R)→Option R
 |[],_,st,K=>K st
 |(i,o)::rest,done,st,K=>
  bif done.all fun d=>kl b d.i i||oJ ops d.i i then GZ ops o st
   (fun st=>let r:=mY st.ev o;GX E A k pre na nt o st fun _ u st=>
    let x:xg:=⟨i,mX pre o.dst,jO u,r⟩
    bif done.all fun d=>kl b d.i i|| !oI d x then xh ops b rest (x::done) st K else none)
   (fun st=>bif qu na nt o.dst then xh ops b rest (⟨i,mX pre o.dst,[],some []⟩::done) {st with t:=fH st.t o.dst .skp} K else none)
  else none
def vHk:Option Obj→List Nat
 |some (.box _ cells)=>cells.flatMap yY
 |some (.robox cells)=>cells.flatMap yY
 |_=>[]
def xi (h:Hp):Nat→List Nat→List Nat→List Nat
 |0,_,seen=>seen
 |_,[],seen=>seen
 |n+1,id::todo,seen=>bif seen.any (Nat.beq id) then xi h n todo seen else xi h n (vHk (h id)++todo) (seen++[id])
def jR (id:Nat):List Nat→Nat→Option Nat
 |[],_=>none
 |a::l,i=>bif Nat.beq a id then some i else jR id l (i+1)
def qw (h:Hp)(ρ:Nat→Option Nat):zS→zS
 |.osl id r=>match ρ id with|some i=>.osl i r|none=>.undef
 |.bsl id a b=>match ρ id with|some i=>.bsl i a b|none=>.undef
 |.ptr id a=>match ρ id with|some i=>.ptr i a|none=>.undef
 |.eptr id a b=>match ρ id with|some i=>.eptr i a b|none=>.undef
 |.mrow id a ver=>match ρ id,h id with
  |some i,some (.mat v _)=>bif Nat.beq v ver then .mrow i a 0 else .undef
  |_,_=>.undef
 |.mptr id a=>match ρ id with|some i=>.mptr i a|none=>.undef
 |.meptr id a b ver=>match ρ id,h id with
  |some i,some (.mat v _)=>bif Nat.beq v ver then .meptr i a b 0 else .undef
  |_,_=>.undef
 |.map id=>match ρ id with|some i=>.map i|none=>.undef
 |.fn f cap=>match cap.mapM ρ with|some c=>.fn f c|none=>.undef
 |v=>v
def WA (h:Hp)(ρ:Nat→Option Nat):zQ→zQ
 |.c v=>.c (qw h ρ v)
 |.agg vs=>.agg (vs.map (qw h ρ))
 |.tup xs=>.tup (xs.map fun x=>(x.1,x.2.map (qw h ρ)))
 |v=>v
def qx (h:Hp)(ρ:Nat→Option Nat):Obj→Obj
 |.box own cells=>.box own (cells.map (qw h ρ))
 |.robox cells=>.robox (cells.map (qw h ρ))
 |.mat _ xs=>.mat 0 xs
 |.pmat _ xs n=>.pmat 0 xs n
 |o=>o
def eL:Nat:=1000000
def LY (st:St)(s:Nat):Option Nat→St
 |none=>match st.t s with
  |.c c=>match kZ st.h c with
   |some (c',u)=>{t:=wX st.t s (.c c'),h:=qC st.h u}
   |none=>st
  |_=>st
 |some j=>match st.t s with
  |.c (.ptr id 0)=>match st.h id with
   |some (.box true cells)=>match cells[j]? with
    |some c=>match kZ st.h c with
     |some (c',u)=>{st with h:=qY (qC st.h u) id (.box true (cells.set j c'))}
     |none=>st
    |none=>st
   |_=>st
  |.agg cells=>match cells[j]? with
   |some c=>match kZ st.h c with
    |some (c',u)=>{t:=wX st.t s (.agg (cells.set j c')),h:=qC st.h u}
    |none=>st
   |none=>st
  |_=>st
def WB:Ty→Bool
 |.bool=>true
 |_=>false
def LZ (st:St)(nm:Nat)(g:Nat×Option Nat×Ty×Bool):St:=bif g.2.2.2&&WB g.2.2.1 then LY st g.1 g.2.1 else match g.2.1 with
 |none=>match st.t g.1 with
  |.c .nsl=>{t:=wX st.t g.1 (.c (.osl nm none)),h:=qY st.h nm (bif g.2.2.2 then .mat 0 [] else .arr true g.2.2.1 [])}
  |_=>st
 |some j=>match st.t g.1 with
  |.c (.ptr id 0)=>match st.h id with
   |some (.box true cells)=>match cells[j]? with
    |some .nsl=>{st with h:=qY (qY st.h nm (bif g.2.2.2 then .mat 0 [] else .arr true g.2.2.1 [])) id (.box true (cells.set j (.osl nm none)))}
    |_=>st
   |_=>st
  |_=>st
def G1 (st:St):Nat→List (Nat×Option Nat×Ty×Bool)→Option St
 |_,[]=>some st
 |nm,g::l=>match st.h nm with
  |none=>G1 (LZ st nm g) (nm+1) l
  |some _=>none
def tv (base : Nat) (h : Hp) (ids : List Nat) : Hp := fun n => bif Nat.ble base n then (match ids[n-base]? with
 |some id=>(h id).map (qx h fun i=>(jR i ids 0).map (base+·))
 |none=>none) else none
def G2 (f:zQ→zQ)(t:Nat→zQ):(l:List (Nat×VS))→Option (SV l)
 |[]=>some ()
 |s::l=>match LS s.2 (f (t s.1)),G2 f t l with
  |some d,some ds=>some (d,ds)
  |_,_=>none
def G3 (f:Obj→Obj)(h:Hp):(l:List OS)→List Nat→Option (OL l)
 |[],[]=>some ()
 |o::l,id::ids=>match(h id).bind fun x=>GU o (f x),G3 f h l ids with
  |some d,some ds=>some (d,ds)
  |_,_=>none
 |_,_=>none
def L4 (g0 base n:Nat)(S:zG)(st:St):Option S.den:=match G1 st g0 S.grow with
 |none=>none
 |some st=>
  let ids:=xi st.h n (S.slots.flatMap fun s=>yG (st.t s.1)) []
  match G2 (WA st.h fun i=>(jR i ids 0).map (base+·)) st.t S.slots,G3 (qx st.h fun i=>(jR i ids 0).map (base+·)) st.h S.objs ids with
  |some a,some b=>some (a,b)
  |_,_=>none
def CN (S:zG)(st:St):Option S.den:=L4 (pre+500000) (pre+eL) 400 S st
def xj:(l:List zG)→St→Option (mW l)
 |[],_=>none
 |[S],st=>CN pre S st
 |S::T::l,st=>match CN pre S st with
  |some d=>some (.inl d)
  |none=>match xj (T::l) st with
   |some d=>some (.inr d)
   |none=>none
def G4 (base:Nat):(l:List zG)→mW l→(St→Option R)→Option R
 |[],_,_=>none
 |[S],d,K=>K (zP base S d)
 |S::T::l,d,K=>match d with
  |.inl d=>K (zP base S d)
  |.inr d=>G4 base (T::l) d K
def CO:(l:List (Ex×zG))→Ex→St→Option (qs l)
 |[],_,_=>none
 |[p],e,st=>bif LV p.1 e then CN pre p.2 st else none
 |p::q::l,e,st=>match(bif LV p.1 e then CN pre p.2 st else none) with
  |some d=>some (.inl d)
  |none=>match CO (q::l) e st with
   |some d=>some (.inr d)
   |none=>none
def xk (base:Nat):(l:List (Ex×zG))→qs l→(Ex→St→Option R)→Option R
 |[],_,_=>none
 |[p],d,K=>K p.1 (zP base p.2 d)
 |p::q::l,d,K=>match d with
  |.inl d=>K p.1 (zP base p.2 d)
  |.inr d=>xk base (q::l) d K
def WC ins outs {X:Type}(jc:qs outs→X)(again:mW ins→Option X):Ex→St→Option X
 |.normal,st=>match xj pre ins st with
  |some d=>again d
  |none=>none
 |e,st=>match CO pre outs e st with
  |some o=>some (jc o)
  |none=>none
def tw:Code→Option Nat
 |.region id _ _=>some id
 |.seq a b=>match tw a with|some i=>some i|none=>tw b
 |.cond _ a b=>match tw a with|some i=>some i|none=>tw b
 |.block _ b|.loop b|.scope b=>tw b
 |_=>none
def qy (b:Code):Option qA:=match tw b with
 |some i=>A.loops.lookup i
 |none=>none
def yPa (b:Code):Nat:=match tw b with
 |some i=>(A.unr.lookup i).getD 0
 |none=>0
def L5 (b:St→(Ex→St→Option R)→Option R):Nat→St→(Ex→St→Option R)→Option R
 |0,_,_=>none
 |n+1,st,K=>b st fun e st=>match e with
  |.normal=>L5 b n st K
  |e=>K e st
def G5 (c:Operand)(b:Bool)(st:St):St:=match A.wise,c with
 |true,.tmp s=>{st with t:=wX st.t s (.c (.bool b))}
 |_,_=>st
def gf:Code→St→(Ex→St→Option R)→Option R
 |.skip,st,K=>K .normal st
 |.region _ ops draw,st,K=>bif draw
   then bif !CM ops then none else xh E A k pre na nt ops (Region.before ops) (ops.toList.zipIdx.map fun p=>(p.2,p.1)) [] st (K .normal)
   else G0 E A k pre na nt ops (ops.toList.zipIdx.map fun p=>(p.2,p.1)) st (K .normal)
 |.seq a b,st,K=>gf a st fun e st=>match e with
  |.normal=>gf b st K
  |e=>K e st
 |.cond c a b,st,K=>match st.ev c with
  |.c (.bool t)=>bif t then gf a (G5 A c true st) K else gf b (G5 A c false st) K
  |_=>none
 |.block id b,st,K=>gf b st fun e st=>match e with
  |.exit i=>bif Nat.beq i id then K .normal st else K (.exit i) st
  |e=>K e st
 |.loop b,st,K=>match qy A b with
  |none=>L5 (gf b) (yPa A b) st K
  |some L=>match xj pre L.ins st with
   |none=>none
   |some d=>(L.sum k d).bind fun x=>L.elim (pre+eL) x R K
 |.exit id,st,K=>K (.exit id) st
 |.ret,st,K=>K .ret st
 |_,_,_=>none
def qz (st:St):ResultVar→Option zQ
 |.tmp t=>some (st.t t)
 |.cell a t=>match st.t a with
  |.c (.ptr id off)=>match st.h id with
   |some (.box _ cells)=>match ja cells off (E.P.cellsOf t) with
    |some vs=>mU (jE E.P t) vs
    |none=>none
   |_=>none
  |_=>none
def xl:zQ→Option (Bool×List zS)
 |.c v=>some (false,[v])
 |.agg vs=>some (true,vs)
 |_=>none
def G6 (fn:Func)(st:St):Option zQ:=match fn.results.toList with
 |[]=>some (.tup [])
 |[r]=>qz E st r
 |rs=>match rs.mapM (fun r=>(qz E st r).bind xl) with
  |some xs=>some (.tup xs)
  |none=>none
def G7 (args:List zQ):Nat→zQ:=fun n=>args.getD n .skp
def gg (fn:Func)(args:List zQ)(h:Hp)(K:zQ→St→Option R):Option R:=match fn.body with
 |none=>none
 |some code=>bif Nat.ble args.length fn.ntmps then gf E A k pre na fn.ntmps code {t:=G7 args,h:=h} fun e st=>match e with
  |.exit _=>none
  |_=>match G6 E fn st with
   |some v=>K v st
   |none=>none
  else none
end
def _root_.Go.Value.one1:Value→Bool
 |.agg _|.tuple _=>false
 |_=>true
def yF (H:Array Go.Obj)(B o:Nat):Option Value:=match H[B]? with
 |some (.cells c _ _)=>c[o]?
 |_=>none
def qP (H:Array Go.Obj)(B:Nat):Nat:=match H[B]? with
 |some (.cells c _ _)=>c.size
 |_=>0
theorem oK (w:World) B o:w.cell? ⟨B,o,none⟩=yF w.heap B o:=by
 rfl
theorem L6 {H H' B}(h:H'[B]? =H[B]?) o:yF H' B o=yF H B o:=by unfold yF;rw[h]
theorem xm {H H' B}(h:H'[B]? =H[B]?):qP H' B=qP H B:=by unfold qP;rw[h]
def zV (H:Array Go.Obj)(F:Nat→Prop):(t:Ty)→t.den→(Nat→Option Value)→Prop
 |.int k,n,rd=>rd 0=some (.int k n)
 |.bool,b,rd=>rd 0=some (.bool b)
 |.sl t,xs,rd=>∃A n c,rd 0=some (.slice A n c)∧n=xs.length∧n≤c∧
   ((xs=[]∧(A=none→c=0))∨∃B o,A=some ⟨B,o,none⟩∧F B∧∀i (h:i<xs.length),zV H F t xs[i] (fun j=>yF H B (o+i*t.size+j)))
 |.pair a b,p,rd=>zV H F a p.1 rd∧zV H F b p.2 (fun j=>rd (j+a.size))
theorem yO {H H' F F'}(hF:∀b,F b→F' b)(hs:∀b,F b→H'[b]? =H[b]?):
  ∀t x rd dD,(∀j,j<t.size→dD j=rd j)→zV H F t x rd→zV H' F' t x dD
 |.int k,n,rd,dD,hr,h
 |.bool,n,rd,dD,hr,h=>by simp[zV] at h⊢;rw[hr 0 (by simp[Ty.size])];exact h
 |.sl t,xs,rd,dD,hr,h=>by
  obtain⟨A,n,c,h1,h2,h3,h4⟩:=h
  refine⟨A,n,c,by rw[hr 0 (by simp[Ty.size])];exact h1,h2,h3,?_⟩
  rcases h4 with h4|⟨B,o,e,hB,h4⟩
  ·simp_all
  ·exact .inr ⟨B,o,e,hF B hB,fun i hi=>yO hF hs t _ _ _ (fun j _=>L6 (hs B hB) _) (h4 i hi)⟩
 |.pair a b,p,rd,dD,hr,h=>by
  exact⟨yO hF hs a _ _ _ (fun j hj=>hr j (by simp[Ty.size];omega)) h.1,
   yO hF hs b _ _ _ (fun j hj=>hr _ (by simp[Ty.size];omega)) h.2⟩
theorem Ty.size_pos:∀t:Ty,0<t.size
 |.int _|.bool|.sl _=>by simp[Ty.size]
 |.pair a b=>by have:=Ty.size_pos a;simp[Ty.size];omega
structure zT where
 blk:Option Nat
 len:Nat
 sz:Nat
 ver:Nat
 rows:List (Option Nat×Nat)
def zT.fp (C:zT):List Nat:=C.blk.toList++C.rows.filterMap (·.1)
structure zT.le (C C':zT):Prop where
 blk:C'.blk=C.blk
 len:C'.len=C.len
 sz:C'.sz=C.sz
 ver:C.ver≤C'.ver
 rows:C'.ver=C.ver→C'.rows=C.rows
theorem zT.le_refl (C:zT):C.le C:=⟨rfl,rfl,rfl,by simp,by simp⟩
theorem zT.le_trans {A B C:zT}(h:A.le B)(k:B.le C):A.le C:=
 ⟨k.blk.trans h.blk,k.len.trans h.len,k.sz.trans h.sz,Nat.le_trans h.ver k.ver,fun e=>by
  have:=h.ver;have:=k.ver
  rw[k.rows (by omega),h.rows (by omega)]⟩
structure zH where
 κ:Nat→Option zT
 F:Nat→Prop
 G:Nat→Prop
 h:Hp
 H:Array Go.Obj
def zJ {α β:Type}(R:α→β→Prop):List α→List β→Prop
 |[],[]=>True
 |a::l,b::m=>R a b∧zJ R l m
 |_,_=>False
theorem zJ.mono {α β R S}(h:∀a b,R a b→S a b):∀{l:List α} {m:List β},zJ R l m→zJ S l m
 |[],[],_=>trivial
 |_::_,_::_,hh=>⟨h _ _ hh.1,zJ.mono h hh.2⟩
theorem zJ.length {α β R}:∀{l:List α} {m:List β},zJ R l m→l.length=m.length
 |[],[],_=>rfl
 |_::_,_::_,hh=>by simp[zJ.length hh.2]
theorem zJ.get {α β R}:∀{l:List α} {m:List β},zJ R l m→∀i h (h':i<m.length),R l[i] m[i]
 |_::_,_::_,hh,0,_,_=>hh.1
 |_::_,_::_,hh,i+1,h,h'=>zJ.get hh.2 i (by simp_all) (by simp_all)
theorem zJ.of_get {α β R}:∀{l:List α} {m:List β},l.length=m.length→(∀i h (h':i<m.length),R l[i] m[i])→zJ R l m
 |[],[],_,_=>trivial
 |a::l,b::m,hl,h=>⟨h 0 (by simp) (by simp),zJ.of_get (by simp_all) fun i h1 h2=>h (i+1) (by simp_all) (by simp_all)⟩
theorem zJ.append {α β R}:∀{l l':List α} {m m':List β},zJ R l m→zJ R l' m'→zJ R (l++l') (m++m')
 |[],_,[],_,_,k=>k
 |_::_,_,_::_,_,h,k=>⟨h.1,zJ.append h.2 k⟩
theorem zJ.drop {α β R}:∀n {l:List α} {m:List β},zJ R l m→zJ R (l.drop n) (m.drop n)
 |0,_,_,h=>h
 |n+1,[],[],_=>trivial
 |n+1,_::_,_::_,h=>zJ.drop n h.2
theorem zJ.take {α β R}:∀n {l:List α} {m:List β},zJ R l m→zJ R (l.take n) (m.take n)
 |0,_,_,_=>by simp[zJ]
 |n+1,[],[],_=>trivial
 |n+1,_::_,_::_,h=>⟨h.1,zJ.take n h.2⟩
theorem zJ.set {α β R}{a:α}{b:β}(G8:R a b):∀n {l m},zJ R l m→zJ R (l.set n a) (m.set n b)
 |_,[],[],_=>trivial
 |0,_::_,_::_,h=>⟨G8,h.2⟩
 |n+1,_::_,_::_,h=>⟨h.1,zJ.set G8 n h.2⟩
def wL (H:Array Go.Obj)(C:zT)(lo n:Nat)(v:Value):Prop:=∃A c,v=.slice A n c∧match C.blk with
 |none=>A=none∧n=0∧c=0
 |some B=>n≤c∧∃a,A=some ⟨B,a,none⟩∧(c=0∨a=lo*C.sz)∧(lo+c)*C.sz≤qP H B
def je (H:Array Go.Obj)(rb:Option Nat)(n:Nat)(v:Value):Prop:=match rb with
 |none=>v=.slice none 0 0∧n=0
 |some B=>∃a c,v=.slice (some ⟨B,a,none⟩) n c∧n≤c∧(c=0∨a=0)∧c≤qP H B
def L7 (C:zT)(lo:Nat)(v:Value):Prop:=∃A n c,v=.slice A n c∧C.len≤lo+c
def zR (M:zH):zS→Value→Prop
 |.undef,v=>v.one1=true
 |.int k n,v=>v=.int k n
 |.bool b,v=>v=.bool b
 |.fsl sh t xs,v=>zV M.H (bif sh then M.G else M.F) (.sl t) xs (fun _=>some v)
 |.nsl,v=>v=.slice none 0 0
 |.nfl sh t xs,v=>(∃a n c,v=.slice (some a) n c)∧zV M.H (bif sh then M.G else M.F) (.sl t) xs (fun _=>some v)
 |.osl id r,v=>∃C,M.κ id=some C∧match r with
  |none=>wL M.H C 0 C.len v
  |some (lo,n)=>lo+n≤C.len∧wL M.H C lo n v∧L7 C lo v
 |.bsl id off n,v=>∃C B,M.κ id=some C∧C.blk=some B∧v=.slice (some ⟨B,off,none⟩) n n
 |.ptr id off,v=>∃C B,M.κ id=some C∧C.blk=some B∧v=.pointer (some ⟨B,off,none⟩)
 |.eptr id i off,v=>∃C B,M.κ id=some C∧C.blk=some B∧i<C.len∧v=.pointer (some ⟨B,i*C.sz+off,none⟩)
 |.fptr sh t x off,v=>∃B o,v=.pointer (some ⟨B,o+off,none⟩)∧(bif sh then M.G else M.F) B∧zV M.H (bif sh then M.G else M.F) t x (fun j=>yF M.H B (o+j))
 |.mrow id i ver,v=>∃C,M.κ id=some C∧v.one1=true∧ver≤C.ver∧(C.ver=ver→∃rb rl,C.rows[i]? =some (rb,rl)∧je M.H rb rl v)
 |.mptr id i,v=>∃C B,M.κ id=some C∧C.blk=some B∧i<C.len∧v=.pointer (some ⟨B,i,none⟩)
 |.meptr id i j ver,v=>∃C,M.κ id=some C∧v.one1=true∧ver≤C.ver∧(C.ver=ver→∃B rl,C.rows[i]? =some (some B,rl)∧j<rl∧v=.pointer (some ⟨B,j,none⟩))
 |.nilp,v=>v=.pointer none
 |.nilf,v=>v=.nilFunc
 |.nilm,v=>v=.map none
 |.fn f cap,v=>∃cv,v=.func (.func f) #[] cv∧zJ (fun id u=>∃C B,M.κ id=some C∧C.blk=some B∧u=.pointer (some ⟨B,0,none⟩)) cap cv.toList
 |.map id,v=>∃C B,M.κ id=some C∧C.blk=some B∧v=.map (some B)
 |.str xs,v=>v=.string ⟨(kY xs).toArray⟩
theorem wL.one {H C lo n v}(h:wL H C lo n v):v.one1=true:=by
 obtain⟨A,c,rfl,_⟩:=h;rfl
theorem zR.one {M c v}(h:zR M c v):v.one1=true:=by
 cases c with
 |undef=>exact h
 |fsl sh t xs=>obtain⟨A,n,c,e,_⟩:=h;simp at e;rw[e];rfl
 |nfl sh t xs=>obtain⟨⟨a,n,c,e⟩,_⟩:=h;rw[e];rfl
 |osl id r=>
  obtain⟨C,_,h⟩:=h
  cases r with
  |none=>exact wL.one h
  |some p=>exact wL.one h.2.1
 |bsl id off n=>obtain⟨C,B,_,_,rfl⟩:=h;rfl
 |ptr id off=>obtain⟨C,B,_,_,rfl⟩:=h;rfl
 |eptr id i off=>obtain⟨C,B,_,_,_,rfl⟩:=h;rfl
 |fptr sh t x off=>obtain⟨B,o,rfl,_⟩:=h;rfl
 |mrow id i ver=>obtain⟨C,_,h,_⟩:=h;exact h
 |mptr id i=>obtain⟨C,B,_,_,_,rfl⟩:=h;rfl
 |meptr id i j ver=>obtain⟨C,_,h,_⟩:=h;exact h
 |fn f cap=>obtain⟨cv,rfl,_⟩:=h;rfl
 |map id=>obtain⟨C,B,_,_,rfl⟩:=h;rfl
 |_=>rw[show v=_ from h];rfl
def re (M:zH)(x:Bool×List zS)(v:Value):Prop:=match x with
 |(false,[c])=>zR M c v
 |(true,cs)=>∃vs,v=.agg vs∧zJ (zR M) cs vs.toList
 |_=>False
def zN (M:zH):zQ→Value→Prop
 |.undef,_=>True
 |.skp,v=>v=undef
 |.c x,v=>zR M x v
 |.agg cs,v=>∃vs,v=.agg vs∧zJ (zR M) cs vs.toList
 |.tup xs,v=>∃vs,v=.tuple vs∧zJ (re M) xs vs.toList
def Obj.owned:Obj→Bool
 |.box o _=>o
 |.arr o _ _=>o
 |.robox _=>false
 |.mat _ _=>true
 |.pmat _ _ _=>true
 |.imap _=>true
 |.gone=>false
def jQ (n:Int):List MapEntry→Option Value
 |[]=>none
 |e::es=>match e.key with
  |.int .i64 m=>if n=m then some e.val else jQ n es
  |_=>jQ n es
def yM (M:zH)(o:Obj)(C:zT):Prop:=match o with
 |.box own cells=>∃B vals e,C.blk=some B∧C.rows=[]∧M.H[B]? =some (.cells vals e (0,0))∧zJ (zR M) cells vals.toList∧(own=false→M.G B)
 |.robox cells=>∃B vals e,C.blk=some B∧C.rows=[]∧M.H[B]? =some (.cells vals e (0,0))∧zJ (zR M) cells vals.toList∧M.F B
 | .arr own t xs => C.len = xs.length ∧ C.sz = t.size ∧ (own = true → C.rows = []) ∧ (match C.blk with
  |none=>xs=[]
  |some B=>∃vals e,M.H[B]? =some (.cells vals e (0,0))∧(own=false→M.G B)∧xs.length*t.size≤vals.size∧
    ∀i (h:i<xs.length),zV M.H M.G t xs[i] (fun j=>vals[i*t.size+j]?))
 | .mat ver xs => C.ver = ver ∧ C.len = xs.length ∧ C.sz = 1 ∧ C.rows.length = xs.length ∧ C.fp.Nodup ∧ (match C.blk with
  |none=>xs=[]
  |some B=>∃vals e,M.H[B]? =some (.cells vals e (0,0))∧xs.length≤vals.size∧
    ∀i (h:i<xs.length),∃rb v,C.rows[i]? =some (rb,xs[i].length)∧vals[i]? =some v∧je M.H rb xs[i].length v∧
     (∀R,rb=some R→∃rv er,M.H[R]? =some (.cells rv er (0,0))∧∀j (h':j<xs[i].length),rv[j]? =some (.int .i64 xs[i][j])))
 | .pmat ver xs n => C.ver = ver ∧ C.len = n ∧ C.sz = 1 ∧ C.rows.length = xs.length ∧ C.fp.Nodup ∧ xs.length ≤ n ∧ (match C.blk with
  |none=>n=0
  |some B=>∃vals e,M.H[B]? =some (.cells vals e (0,0))∧n≤vals.size∧
    ∀i (h:i<xs.length),∃rb v,C.rows[i]? =some (rb,xs[i].length)∧vals[i]? =some v∧je M.H rb xs[i].length v∧
     (∀R,rb=some R→∃rv er,M.H[R]? =some (.cells rv er (0,0))∧∀j (h':j<xs[i].length),rv[j]? =some (.int .i64 xs[i][j])))
 |.imap cj=>∃B es ck,C.blk=some B∧C.rows=[]∧M.H[B]? =some (.map es ck)∧(∀e∈es.toList,∃n b,e.key=.int .i64 n∧e.val=.bool b)∧
   ∀n,jQ n es.toList=(cj.lookup n).map .bool
 |.gone=>True
def qH (M:zH)(b:Nat):Prop:=∃id o C,M.h id=some o∧o.owned=true∧M.κ id=some C∧b∈C.fp
structure Ok (M:zH):Prop where
 obj:∀id o,M.h id=some o→∃C,M.κ id=some C∧yM M o C
 non:∀id,M.h id=none→M.κ id=none
 disj:∀i j oi oj Ci Cj b,i≠j→M.h i=some oi→M.h j=some oj→oi.owned=true→oj.owned=true→M.κ i=some Ci→M.κ j=some Cj→b∈Ci.fp→b∈Cj.fp→False
 own:∀b,qH M b→¬M.F b∧b<M.H.size
 GF:∀b,M.G b→M.F b
 Flt:∀b,M.F b→b<M.H.size
structure yD (M M':zH):Prop where
 κ:∀id C,M.κ id=some C→∃C',M'.κ id=some C'∧C.le C'
 F:∀b,M.F b→M'.F b
 G:∀b,M.G b→M'.G b
 same:∀b,M.F b→M'.H[b]? =M.H[b]?
 sameG:∀b,M.G b→M'.H[b]? =M.H[b]?
 bsz:∀b,b<M.H.size→qP M'.H b=qP M.H b
theorem vEe {H b}(h:¬b<H.size):qP H b=0:=by
 unfold qP;simp_all
theorem WD {M M'}(x:yD M M') b:qP M.H b≤qP M'.H b:=by
 by_cases h:b<M.H.size
 ·rw[x.bsz b h];omega
 ·rw[vEe h];omega
theorem wL.ext {M M'}(x:yD M M'){C C'}(le:C.le C'){lo n v}(h:wL M.H C lo n v):wL M'.H C' lo n v:=by
 obtain⟨A,c,rfl,h⟩:=h
 refine⟨A,c,rfl,?_⟩
 rw[le.blk]
 cases hb:C.blk with
 |none=>simp_all
 |some B=>
  rw[hb] at h
  obtain⟨h0,a,h1,h2,h3⟩:=h
  exact⟨h0,a,h1,by rw[le.sz];exact h2,by rw[le.sz];exact Nat.le_trans h3 (WD x B)⟩
theorem je.ext {M M'}(x:yD M M'){rb n v}(h:je M.H rb n v):je M'.H rb n v:=by
 cases rb with
 |none=>exact h
 |some B=>
  obtain⟨a,c,h1,h2,h3,h4⟩:=h
  exact⟨a,c,h1,h2,h3,Nat.le_trans h4 (WD x B)⟩
theorem zR.ext {M M'}(x:yD M M'){c v}(h:zR M c v):zR M' c v:=by
 cases c with
 |fsl sh t xs=>
  cases sh with
  |true=>exact yO x.G x.sameG _ _ _ _ (fun _ _=>rfl) h
  |false=>exact yO x.F x.same _ _ _ _ (fun _ _=>rfl) h
 |nfl sh t xs=>
  cases sh with
  |true=>exact⟨h.1,yO x.G x.sameG _ _ _ _ (by simp) h.2⟩
  |false=>exact⟨h.1,yO x.F x.same _ _ _ _ (by simp) h.2⟩
 |osl id r=>
  obtain⟨C,hC,h⟩:=h
  obtain⟨C',au,le⟩:=x.κ id C hC
  refine⟨C',au,?_⟩
  cases r with
  |none=>rw[le.len];exact wL.ext x le h
  |some p=>exact⟨by rw[le.len];omega,wL.ext x le h.2.1,by unfold L7;rw[le.len];exact h.2.2⟩
 |bsl id off n=>
  obtain⟨C,B,hC,hB,h⟩:=h
  obtain⟨C',au,le⟩:=x.κ id C hC
  exact⟨C',B,au,le.blk.trans hB,h⟩
 |ptr id off=>
  obtain⟨C,B,hC,hB,h⟩:=h
  obtain⟨C',au,le⟩:=x.κ id C hC
  exact⟨C',B,au,le.blk.trans hB,h⟩
 |eptr id i off=>
  obtain⟨C,B,hC,hB,hi,h⟩:=h
  obtain⟨C',au,le⟩:=x.κ id C hC
  exact⟨C',B,au,le.blk.trans hB,by rw[le.len];exact hi,by rw[le.sz];exact h⟩
 |fptr sh t y off=>
  obtain⟨B,o,h1,h2,h3⟩:=h
  cases sh with
  |true=>exact⟨B,o,h1,x.G B h2,yO x.G x.sameG _ _ _ _ (fun j _=>L6 (x.sameG B h2) _) h3⟩
  |false=>exact⟨B,o,h1,x.F B h2,yO x.F x.same _ _ _ _ (fun j _=>L6 (x.same B h2) _) h3⟩
 |mrow id i ver=>
  obtain⟨C,hC,h1,hle,h⟩:=h
  obtain⟨C',au,le⟩:=x.κ id C hC
  have:=le.ver
  refine⟨C',au,h1,by omega,fun e=>?_⟩
  obtain⟨rb,rl,h2,h3⟩:=h (by omega)
  exact⟨rb,rl,by rw[le.rows (by omega)];exact h2,je.ext x h3⟩
 |mptr id i=>
  obtain⟨C,B,hC,hB,hi,h⟩:=h
  obtain⟨C',au,le⟩:=x.κ id C hC
  exact⟨C',B,au,le.blk.trans hB,by rw[le.len];exact hi,h⟩
 |meptr id i j ver=>
  obtain⟨C,hC,h1,hle,h⟩:=h
  obtain⟨C',au,le⟩:=x.κ id C hC
  have:=le.ver
  refine⟨C',au,h1,by omega,fun e=>?_⟩
  obtain⟨B,rl,h2,h3⟩:=h (by omega)
  exact⟨B,rl,by rw[le.rows (by omega)];exact h2,h3⟩
 |fn f cap=>
  obtain⟨cv,h1,h2⟩:=h
  refine⟨cv,h1,h2.mono fun id u ⟨C,B,hC,hB,hu⟩=>?_⟩
  obtain⟨C',au,le⟩:=x.κ id C hC
  exact⟨C',B,au,le.blk.trans hB,hu⟩
 |map id=>
  obtain⟨C,B,hC,hB,h⟩:=h
  obtain⟨C',au,le⟩:=x.κ id C hC
  exact⟨C',B,au,le.blk.trans hB,h⟩
 |_=>exact h
theorem re.ext {M M'}(x:yD M M'){p v}(h:re M p v):re M' p v:=by
 obtain⟨b,cs⟩:=p
 cases b with
 |true=>
  obtain⟨vs,h1,h2⟩:=h
  exact⟨vs,h1,h2.mono fun _ _ hc=>hc.ext x⟩
 |false=>
  cases cs with
  |nil=>exact h
  |cons c cs=>cases cs with
   |nil=>exact zR.ext (c:=c) x h
   |cons _ _=>exact h
theorem zN.ext {M M'}(x:yD M M'){a v}(h:zN M a v):zN M' a v:=by
 cases a with
 |undef=>trivial
 |skp=>exact h
 |c c=>exact zR.ext (c:=c) x h
 |agg cs=>
  obtain⟨vs,h1,h2⟩:=h
  exact⟨vs,h1,h2.mono fun _ _ hc=>hc.ext x⟩
 |tup xs=>
  obtain⟨vs,h1,h2⟩:=h
  exact⟨vs,h1,h2.mono fun _ _ hc=>hc.ext x⟩
theorem yM.ext {M M'}(x:yD M M'){o C}(hb:o.owned=true→∀b∈C.fp,M'.H[b]? =M.H[b]?)(h:yM M o C):yM M' o C:=by
 cases o with
 |box own cells=>
  obtain⟨B,vals,e,h1,h2,h3,h4,h5⟩:=h
  have hs:M'.H[B]? =M.H[B]? :=by
   cases own with
   |true=>exact hb rfl B (by simp[zT.fp,h1])
   |false=>exact x.sameG B (h5 rfl)
  exact⟨B,vals,e,h1,h2,by simp_all,h4.mono fun _ _ hc=>hc.ext x,fun h=>x.G B (h5 h)⟩
 |robox cells=>
  obtain⟨B,vals,e,h1,h2,h3,h4,h5⟩:=h
  exact⟨B,vals,e,h1,h2,by rw[x.same B h5];exact h3,h4.mono fun _ _ hc=>hc.ext x,x.F B h5⟩
 |arr own t xs=>
  obtain⟨h1,h2,h3,h4⟩:=h
  refine⟨h1,h2,h3,?_⟩
  cases hB:C.blk with
  |none=>simp_all
  |some B=>
   rw[hB] at h4
   obtain⟨vals,e,h5,h6,h7,h8⟩:=h4
   have hs:M'.H[B]? =M.H[B]? :=by
    cases own with
    |true=>exact hb rfl B (by simp[zT.fp,hB])
    |false=>exact x.sameG B (h6 rfl)
   exact⟨vals,e,by simp_all,fun h=>x.G B (h6 h),h7,fun i hi=>yO x.G x.sameG _ _ _ _ (by simp) (h8 i hi)⟩
 |mat ver xs=>
  obtain⟨h1,h2,h3,h4,h5,h6⟩:=h
  refine⟨h1,h2,h3,h4,h5,?_⟩
  cases hB:C.blk with
  |none=>rw[hB] at h6;exact h6
  |some B=>
   rw[hB] at h6
   obtain⟨vals,e,h7,h8,h9⟩:=h6
   refine⟨vals,e,by rw[hb rfl B (by simp[zT.fp,hB])];exact h7,h8,fun i hi=>?_⟩
   obtain⟨rb,v,k1,k2,k3,k4⟩:=h9 i hi
   refine⟨rb,v,k1,k2,k3.ext x,fun R hR=>?_⟩
   obtain⟨rv,er,k5,k6⟩:=k4 R hR
   refine⟨rv,er,?_,k6⟩
   rw[hb rfl R ?_]
   ·exact k5
   ·simp[zT.fp]
    exact by grind
 |pmat ver xs n=>
  obtain⟨h1,h2,h3,h4,h5,h0,h6⟩:=h
  refine⟨h1,h2,h3,h4,h5,h0,?_⟩
  cases hB:C.blk with
  |none=>simp_all
  |some B=>
   rw[hB] at h6
   obtain⟨vals,e,h7,h8,h9⟩:=h6
   refine⟨vals,e,by rw[hb rfl B (by simp[zT.fp,hB])];exact h7,h8,fun i hi=>?_⟩
   obtain⟨rb,v,k1,k2,k3,k4⟩:=h9 i hi
   refine⟨rb,v,k1,k2,k3.ext x,fun R hR=>?_⟩
   obtain⟨rv,er,k5,k6⟩:=k4 R hR
   refine⟨rv,er,?_,k6⟩
   rw[hb rfl R ?_]
   ·exact k5
   ·simp only[zT.fp]
    grind
 |imap cj=>
  obtain⟨B,es,ck,h1,h2,h3,h4,h5⟩:=h
  exact⟨B,es,ck,h1,h2,by rw[hb rfl B (by simp[zT.fp,h1])];exact h3,h4,h5⟩
 |gone=>trivial
structure yN (M M':zH):Prop where
 ext:yD M M'
 size:M.H.size≤M'.H.size
 frame:∀b,b<M.H.size→¬qH M b→M'.H[b]? =M.H[b]?
 own:∀b,qH M' b→b<M.H.size→qH M b
 Gb:∀b,M'.G b→b<M.H.size→M.G b∨qH M b
 Fb:∀b,M'.F b→b<M.H.size→M.F b∨qH M b
theorem yD.refl M:yD M M:=⟨fun _ C h=>⟨C,h,C.le_refl⟩,by simp,by simp,by simp,by simp,by simp⟩
theorem yN.refl M:yN M M:=⟨yD.refl M,by simp,by simp,by grind,by grind,by grind⟩
theorem yD.trans {M M' jg}(hs:M.H.size≤M'.H.size)(x:yD M M')(y:yD M' jg):yD M jg where
 κ id C h:=by
  obtain⟨C',h',le⟩:=x.κ id C h
  obtain⟨C'',h'',le'⟩:=y.κ id C' h'
  exact⟨C'',h'',zT.le_trans le le'⟩
 F b h:=y.F b (x.F b h)
 G b h:=y.G b (x.G b h)
 same b h:=(y.same b (x.F b h)).trans (x.same b h)
 sameG b h:=(y.sameG b (x.G b h)).trans (x.sameG b h)
 bsz b h:=(y.bsz b (by omega)).trans (x.bsz b h)
theorem yN.trans {M M' jg}(x:yN M M')(y:yN M' jg):yN M jg where
 ext:=x.ext.trans x.size y.ext
 size:=Nat.le_trans x.size y.size
 frame b h hn:=by
  have:=x.size
  rw[y.frame b (by omega) fun ho=>hn (x.own b ho h),x.frame b h hn]
 own b ho h:=x.own b (y.own b ho (by have:=x.size;omega)) h
 Gb b hg h:=by
  rcases y.Gb b hg (by have:=x.size;omega) with k|k
  ·exact x.Gb b k h
  ·exact .inr (x.own b k h)
 Fb b hg h:=by
  rcases y.Fb b hg (by have:=x.size;omega) with k|k
  ·exact x.Fb b k h
  ·exact .inr (x.own b k h)
theorem Ok.build {M M'}(ok:Ok M)(x:yD M M')(T:Nat→Prop)
  (hh:∀id,¬T id→M'.h id=M.h id) (hκ:∀id,¬T id→M'.κ id=M.κ id)
  (keep:∀id o C,¬T id→M.h id=some o→o.owned=true→M.κ id=some C→∀b∈C.fp,M'.H[b]? =M.H[b]?)
  (WE:∀id o C,¬T id→M.h id=some o→o.owned=true→M.κ id=some C→∀b∈C.fp,¬M'.F b)
  (size:M.H.size≤M'.H.size)
  (obj:∀id o,T id→M'.h id=some o→∃C,M'.κ id=some C∧yM M' o C)
  (non:∀id,T id→M'.h id=none→M'.κ id=none)
  (disj:∀id o C b,T id→M'.h id=some o→o.owned=true→M'.κ id=some C→b∈C.fp→
   (∀j oj Cj,j≠id→M'.h j=some oj→oj.owned=true→M'.κ j=some Cj→b∉Cj.fp)∧¬M'.F b∧b<M'.H.size)
  (GF:∀b,M'.G b→M'.F b) (Flt:∀b,M'.F b→b<M'.H.size):Ok M' where
 obj id o h:=by
  by_cases hT:T id
  ·exact obj id o hT h
  ·rw[hh id hT] at h
   obtain⟨C,hC,hO⟩:=ok.obj id o h
   exact⟨C,by rw[hκ id hT];exact hC,hO.ext x fun ho=>keep id o C hT h ho hC⟩
 non id h:=by
  by_cases hT:T id
  ·exact non id hT h
  ·rw[hκ id hT];exact ok.non id (by rw[←hh id hT];exact h)
 disj i j oi oj Ci Cj b ko hi hj hoi hoj WG cW CP hbj:=by
  by_cases WH:T i
  ·grind
  ·by_cases WI:T j
   ·grind
   ·rw[hh i WH] at hi;rw[hh j WI] at hj;rw[hκ i WH] at WG;rw[hκ j WI] at cW
    exact ok.disj i j oi oj Ci Cj b ko hi hj hoi hoj WG cW CP hbj
 own b hb:=by
  obtain⟨id,o,C,h,ho,hC,hb⟩:=hb
  by_cases hT:T id
  ·exact(disj id o C b hT h ho hC hb).2
  ·rw[hh id hT] at h;rw[hκ id hT] at hC
   have:=ok.own b ⟨id,o,C,h,ho,hC,hb⟩
   grind
 GF:=GF
 Flt:=Flt
def κset (κ:Nat→Option zT)(id:Nat)(C:zT):Nat→Option zT:=fun n=>if n=id then some C else κ n
theorem κset_same κ id C:κset κ id C id=some C:=by simp[κset]
theorem κset_ne κ {id n} C (h:n≠id):κset κ id C n=κ n:=by simp[κset,h]
theorem yE h id o:qY h id o id=some o:=by simp[qY]
theorem yH h {id n} o (hn:n≠id):qY h id o n=h n:=by
 have:Nat.beq n id=false:=by
  cases hb:Nat.beq n id with
  |true=>simp_all
  |false=>rfl
 simp[qY,this]
theorem l6 {H:Array Go.Obj}{o b}(h:b<H.size):(H.push o)[b]? =H[b]? :=by
 grind
theorem tx {H:Array Go.Obj}{o}:(H.push o)[H.size]? =some o:=by simp
def zH.new (M:zH)(id:Nat)(o:Obj)(C:zT)(ob:Go.Obj):zH:={M with κ:=κset M.κ id C,h:=qY M.h id o,H:=M.H.push ob}
theorem zH.new_ext {M}(ok:Ok M){id}(ab:M.h id=none) o C ob:yD M (M.new id o C ob) where
 κ n D h:=by
  have:n≠id:=fun e=>by rw[e,ok.non id ab] at h;cases h
  exact⟨D,by simp[zH.new];rw[κset_ne _ _ this];exact h,D.le_refl⟩
 F _ h:=h
 G _ h:=h
 same b h:=l6 (ok.Flt b h)
 sameG b h:=l6 (ok.Flt b (ok.GF b h))
 bsz b h:=xm (l6 h)
theorem zH.new_ok {M}(ok:Ok M){id}(ab:M.h id=none) o C ob (hC:∀b∈C.fp,b=M.H.size)
  (hO:yM (M.new id o C ob) o C):Ok (M.new id o C ob)∧yN M (M.new id o C ob):=by
 have x:=zH.new_ext ok ab o C ob
 have cN:(M.new id o C ob).H.size=M.H.size+1:=by simp[zH.new]
 have oL:∀b,qH (M.new id o C ob) b→b=M.H.size∨qH M b:=by
  rintro b ⟨n,q,D,h1,h2,h3,h4⟩
  by_cases e:n=id
  ·subst e
   simp[zH.new,κset_same] at h1 h3
   grind
  ·simp[zH.new] at h1 h3
   rw[yH _ _ e] at h1;rw[κset_ne _ _ e] at h3
   exact .inr ⟨n,q,D,h1,h2,h3,h4⟩
 refine⟨ok.build x (· =id) (fun n hn=>yH _ _ hn) (fun n hn=>κset_ne _ _ hn) ?_ ?_ (by omega) ?_ ?_ ?_ ok.GF ?_,x,by omega,?_,?_,?_,?_⟩
 ·intro n q D hn h1 h2 h3 b hb
  exact l6 (ok.own b ⟨n,q,D,h1,h2,h3,hb⟩).2
 ·intro n q D hn h1 h2 h3 b hb
  exact(ok.own b ⟨n,q,D,h1,h2,h3,hb⟩).1
 ·rintro n q rfl h1
  simp[zH.new,yE] at h1
  subst h1
  exact⟨C,κset_same _ _ _,hO⟩
 ·rintro n rfl h1
  simp only[zH.new,yE] at h1
  cases h1
 ·rintro n q D b rfl h1 h2 h3 hb
  simp[zH.new,κset_same] at h3
  subst h3
  have eb:=hC b hb
  refine⟨fun j oj Cj hj k1 k2 k3 k4=>?_,fun hF=>?_,by omega⟩
  ·simp[zH.new] at k1 k3
   rw[yH _ _ hj] at k1;rw[κset_ne _ _ hj] at k3
   have:=(ok.own b ⟨j,oj,Cj,k1,k2,k3,k4⟩).2
   omega
  ·have:=ok.Flt b hF
   omega
 ·intro b hb
  have:=ok.Flt b hb
  omega
 ·intro b hb _
  exact l6 hb
 ·grind
 ·exact fun b h _=>.inl h
 ·exact fun b h _=>.inl h
def zH.write (M:zH)(id:Nat)(o:Obj)(C:zT)(H:Array Go.Obj):zH:={M with κ:=κset M.κ id C,h:=qY M.h id o,H:=H}
theorem zH.write_ext {M}(ok:Ok M){id o C C' H'}(ab:M.h id=some o)(aA:o.owned=true)(hC:M.κ id=some C)
    (hle:C.le C') (hH:∀b,b∉C.fp→H'[b]? =M.H[b]?) (bZ:∀b,b<M.H.size→qP H' b=qP M.H b) o':yD M (M.write id o' C' H'):=
  have rf:∀b,M.F b→b∉C.fp:=fun b hF hb=>(ok.own b ⟨id,o,C,ab,aA,hC,hb⟩).1 hF
  { κ:=fun n D h=>by
      by_cases e:n=id
      · subst e
        rw[hC] at h
        cases h
        exact⟨C',κset_same _ _ _,hle⟩
      · exact⟨D,by simp[zH.write];rw[κset_ne _ _ e];exact h,D.le_refl⟩
    F:=fun _ h=>h
    G:=fun _ h=>h
    same:=fun b h=>hH b (rf b h)
    sameG:=fun b h=>hH b (rf b (ok.GF b h))
    bsz:=bZ}
theorem zH.write_ok {M}(ok:Ok M){id o o' C C' H'}(ab:M.h id=some o)(aA:o.owned=true)(hC:M.κ id=some C)
  (hle:C.le C') (mZ:∀b∈C'.fp,b∈C.fp) (cN:H'.size=M.H.size) (hH:∀b,b∉C.fp→H'[b]? =M.H[b]?) (bZ:∀b,b<M.H.size→qP H' b=qP M.H b)
  (hO:yM (M.write id o' C' H') o' C'):Ok (M.write id o' C' H')∧yN M (M.write id o' C' H'):=by
 have x:=zH.write_ext ok ab aA hC hle hH bZ o'
 have oL:∀b,qH (M.write id o' C' H') b→qH M b:=by
  rintro b ⟨n,q,D,h1,h2,h3,h4⟩
  by_cases e:n=id
  ·subst e
   simp[zH.write,κset_same] at h1 h3
   subst h3
   exact⟨n,o,C,ab,aA,hC,mZ b h4⟩
  ·simp[zH.write] at h1 h3
   rw[yH _ _ e] at h1;rw[κset_ne _ _ e] at h3
   exact⟨n,q,D,h1,h2,h3,h4⟩
 refine⟨ok.build x (· =id) (fun n hn=>yH _ _ hn) (fun n hn=>κset_ne _ _ hn) ?_ ?_ (by simp[zH.write];omega) ?_ ?_ ?_ ok.GF ?_,x,by simp[zH.write];omega,?_,?_,?_,?_⟩
 ·intro n q D hn h1 h2 h3 b hb
  exact hH b fun hc=>ok.disj n id q o D C b hn h1 ab h2 aA h3 hC hb hc
 ·intro n q D hn h1 h2 h3 b hb
  exact(ok.own b ⟨n,q,D,h1,h2,h3,hb⟩).1
 ·rintro n q rfl h1
  simp[zH.write,yE] at h1
  subst h1
  exact⟨C',κset_same _ _ _,hO⟩
 ·rintro n rfl h1
  simp only[zH.write,yE] at h1
  cases h1
 ·rintro n q D b rfl h1 h2 h3 hb
  simp[zH.write,κset_same] at h3
  subst h3
  have bj:=mZ b hb
  have:=ok.own b ⟨n,o,C,ab,aA,hC,bj⟩
  refine⟨fun j oj Cj hj k1 k2 k3 k4=>?_,this.1,by simp[zH.write];omega⟩
  simp[zH.write] at k1 k3
  rw[yH _ _ hj] at k1;rw[κset_ne _ _ hj] at k3
  exact ok.disj j n oj o Cj C b hj k1 ab k2 aA k3 hC k4 bj
 ·intro b hb
  have:=ok.Flt b hb
  simp[zH.write];omega
 ·intro b hb hn
  exact hH b fun hc=>hn ⟨id,o,C,ab,aA,hC,hc⟩
 ·simp_all
 ·exact fun b h _=>.inl h
 ·exact fun b h _=>.inl h
def zH.freeze (M:zH)(id:Nat)(o:Obj)(C:zT):zH:={M with h:=qY M.h id o,F:=fun b=>M.F b∨b∈C.fp,G:=fun b=>M.G b∨b∈C.fp}
theorem zH.freeze_ok {M}(ok:Ok M){id o o' C}(ab:M.h id=some o)(aA:o.owned=true)(hC:M.κ id=some C)
  (kp:o'.owned=false) (hO:yM (M.freeze id o' C) o' C):Ok (M.freeze id o' C)∧yN M (M.freeze id o' C):=by
 have x:yD M (M.freeze id o' C):=⟨fun _ C h=>⟨C,h,C.le_refl⟩,fun _ h=>.inl h,fun _ h=>.inl h,fun _ _=>rfl,fun _ _=>rfl,fun _ _=>rfl⟩
 have CQ:∀b∈C.fp,qH M b:=fun b hb=>⟨id,o,C,ab,aA,hC,hb⟩
 have oL:∀b,qH (M.freeze id o' C) b→qH M b:=by
  rintro b ⟨n,q,D,h1,h2,h3,h4⟩
  by_cases e:n=id
  ·subst e
   simp[zH.freeze,yE] at h1
   simp_all
  ·simp[zH.freeze] at h1
   rw[yH _ _ e] at h1
   exact⟨n,q,D,h1,h2,h3,h4⟩
 refine⟨ok.build x (· =id) (fun n hn=>yH _ _ hn) (fun n _=>rfl) (fun _ _ _ _ _ _ _ _ _=>rfl) ?_ (Nat.le_refl _) ?_ ?_ ?_ ?_ ?_,x,Nat.le_refl _,fun _ _ _=>rfl,by grind,?_,?_⟩
 ·rintro n q D hn h1 h2 h3 b hb (hF|hF)
  ·exact(ok.own b ⟨n,q,D,h1,h2,h3,hb⟩).1 hF
  ·exact ok.disj n id q o D C b hn h1 ab h2 aA h3 hC hb hF
 ·rintro n q rfl h1
  simp[zH.freeze,yE] at h1
  subst h1
  exact⟨C,hC,hO⟩
 ·rintro n rfl h1
  simp only[zH.freeze,yE] at h1
  cases h1
 ·rintro n q D b rfl h1 h2 h3 hb
  simp[zH.freeze,yE] at h1
  simp_all
 ·rintro b (h|h)
  ·exact .inl (ok.GF b h)
  ·exact .inr h
 ·rintro b (h|h)
  ·exact ok.Flt b h
  ·exact(ok.own b (CQ b h)).2
 ·rintro b (h|h) _
  all_goals simp_all
 ·rintro b (h|h) _
  all_goals simp_all
end Go.Ab
set_option linter.unusedSimpArgs false
namespace Go.Ab
def G9:List (Bool×zQ×yR)→zQ→yR→Prop
 |[],_,_=>False
 |(c,a,b)::l,v,u=>(c=true∧v=a∧u=b)∨(c=false∧G9 l v u)
def yB (s:yI)(v:zQ)(u:yR):Prop:=match s with
 |.alts l=>G9 l v u
 |.call _ x f=>∃r,x=some r∧v=(f r).1∧u=(f r).2
 |.call2 _ _ x f g=>(∃r,x=some (.inl r)∧v=(f r).1∧u=(f r).2)∨(∃r,x=some (.inr r)∧v=(g r).1∧u=(g r).2)
theorem WJ {R K}{out:R}:∀{l},LC K l=some out→∃v u,G9 l v u∧K v u=some out
 |(c,a,b)::l,h=>by
  cases c with
  |true=>exact⟨a,b,.inl (by simp),h⟩
  |false=>
   obtain⟨v,u,h1,h2⟩:=WJ (l:=l) h
   exact⟨v,u,.inr (by grind),h2⟩
theorem yI.elim_some {R s K}{out:R}(h:s.elim K=some out):∃v u,yB s v u∧K v u=some out:=by
 cases s with
 |alts l=>exact WJ h
 |call X x f=>
  simp[yI.elim,Option.bind_eq_some_iff] at h
  obtain⟨r,h1,h2⟩:=h
  exact⟨_,_,⟨r,h1,rfl,rfl⟩,h2⟩
 |call2 X Y x f g=>
  simp[yI.elim,Option.bind_eq_some_iff] at h
  obtain⟨r,h1,h2⟩:=h
  cases r with
  |inl r=>exact⟨_,_,.inl ⟨r,h1,rfl,rfl⟩,h2⟩
  |inr r=>exact⟨_,_,.inr ⟨r,h1,rfl,rfl⟩,h2⟩
theorem vP {v a u}(h:yB (.one a) v u):v=a∧u=[]:=by
 rcases h with⟨_,h1,h2⟩|⟨h,_⟩
 all_goals simp_all
theorem kq {c v a u}(h:yB (.when c a) v u):c=true∧v=a∧u=[]:=by
 rcases h with h|⟨_,h⟩
 ·exact h
 ·exact h.elim
theorem dV {c v a u b}(h:yB (.alts [(c,a,b)]) v u):c=true∧v=a∧u=b:=by
 rcases h with h|⟨_,h⟩
 ·exact h
 ·exact h.elim
theorem L8 {x v u}(h:yB (.ofO x) v u):x=some v∧u=[]:=by
 cases x with
 |none=>exact h.elim
 |some a=>
  obtain⟨rfl,rfl⟩:=vP h
  simp
section
variable {P:Program} (w:World)
theorem Ha {t d}(h:P.underlying t=some d):∃i,P.info? t=some i:=by
 unfold Program.underlying at h
 grind
theorem L9 {t i}(h:P.info? t=some i):P.cellsOf t=i.size:=by simp[Program.cellsOf,h]
theorem yTz {t i}(h:P.info? t=some i):P.bytesOf t=i.bytes:=by simp[Program.bytesOf,h]
theorem la {t}(h:0<P.cellsOf t):∃i,P.info? t=some i:=by
 cases hi:P.info? t with
 |none=>simp[Program.cellsOf,hi] at h
 |some i=>simp
theorem Ma {t i}(h:P.info? t=some i):(typeInfo t).run P w=.ok i w:=by simp[typeInfo,h]
theorem fg {t i}(h:P.info? t=some i):(sizeOf t).run P w=.ok (P.cellsOf t) w:=by
 rw[L9 h];simp[sizeOf,typeInfo,h]
theorem oM {t b}(h:jE P t=some b):(∃d,P.underlying t=some d)∧(isAgg t).run P w=.ok b w:=by
 unfold jE at h
 cases hd:P.underlying t with
 |none=>simp_all
 |some d=>
  rw[hd] at h
  cases d<;>simp at h<;>subst h<;>simp[isAgg,run_underlying hd]
theorem WK {t cs}(h:zeroCells P t=some cs):∃i v,P.info? t=some i∧i.zero=some v∧v.cells.size=i.size∧v.cells.toList.all tg=true∧cs=v.cells.toList.map tf:=by
 unfold zeroCells at h
 split at h
 ·rename_i i hi
  split at h
  ·rename_i v hv
   cases hb:(Nat.beq v.cells.size i.size&&v.cells.toList.all tg) with
   |false=>grind
   |true=>
    rw[hb] at h
    simp_all
  ·cases h
 ·cases h
end
theorem yXc {v}(h:tg v=true):v.one1=true:=by cases v<;>first|rfl|cases h
theorem tz {v:Value}(h:v.one1=true):v.oneCell'=true:=by cases v<;>first|rfl|cases h
theorem WL M {v}(h:v.one1=true):zR M (tf v) v:=by
 unfold tf
 split<;>first|rfl|exact h
theorem Hb M:∀{l},l.all tg=true→zJ (zR M) (l.map tf) l
 |[],_=>trivial
 |v::l,h=>by
  simp only[List.all_cons,Bool.and_eq_true] at h
  exact⟨WL M (yXc h.1),Hb M h.2⟩
theorem yPv M v:zN M (LD v) v:=by
 unfold LD
 split
 ·rename_i cs
  cases hb:cs.toList.all tg with
  |false=>trivial
  |true=>exact⟨cs,rfl,Hb M hb⟩
 ·trivial
 ·exact WL M (by cases v<;>first|rfl|simp_all|simp_all)
def qD (P:Program)(s:Sem Value)(M:zH)(w:World)(v:zQ)(u:yR):Prop:=
 ∃rv w' M',s.run P w=.ok rv w'∧w'.os=w.os∧w'.tape=w.tape∧w'.output=w.output∧M'.H=w'.heap∧M'.h=qC M.h u∧Ok M'∧yN M M'∧zN M' v rv
theorem qD.pure {P s M w v rv}(ok:Ok M)(hM:M.H=w.heap)(h:s.run P w=.ok rv w)(hv:zN M v rv):qD P s M w v []:=
 ⟨rv,w,M,h,rfl,rfl,rfl,hM,rfl,ok,yN.refl M,hv⟩
theorem xn sh:∀t x,(cellsOf sh t x).length=t.size
 |.int _,_|.bool,_|.sl _,_=>rfl
 |.pair a b,p=>by simp[cellsOf,xn sh a,xn sh b,Ty.size]
theorem Hc M sh:∀t x rd,zV M.H (bif sh then M.G else M.F) t x rd→
  ∀j h,∃v,rd j=some v∧zR M (cellsOf sh t x)[j] v
 |.int k,n,rd,h,j,hj
 |.bool,n,rd,h,j,hj=>by
  simp[cellsOf] at hj
  obtain rfl:j=0:=by omega
  exact⟨_,h,rfl⟩
 |.sl t,xs,rd,h,j,hj=>by
  simp[cellsOf] at hj
  obtain rfl:j=0:=by omega
  obtain⟨A,n,c,h1,h2⟩:=h
  refine⟨_,h1,?_⟩
  show zV _ _ _ _ _
  simp[zV]
  grind
 |.pair a b,p,rd,h,j,hj=>by
  simp[cellsOf,xn] at hj
  by_cases aS:j<(cellsOf sh a p.1).length
  ·obtain⟨v,h1,h2⟩:=Hc M sh a p.1 rd h.1 j aS
   refine⟨v,h1,?_⟩
   simp[cellsOf,List.getElem_append_left aS]
   exact h2
  ·have gh:=aS
   rw[xn] at gh
   obtain⟨v,h1,h2⟩:=Hc M sh b p.2 _ h.2 (j-a.size) (by rw[xn];omega)
   refine⟨v,by grind,?_⟩
   have ld:(cellsOf sh a p.1).length≤j:=by omega
   simp[cellsOf,List.getElem_append_right ld]
   simp[xn]
   exact h2
theorem CR {cells vs off n}(h:ja cells off n=some vs):off+n≤cells.length∧vs=(cells.drop off).take n∧vs.length=n:=by
 unfold ja at h
 cases hb:Nat.ble (off+n) cells.length with
 |false=>simp_all
 |true=>
  have:=Nat.le_of_ble_eq_true hb
  grind
theorem Mb {agg vs v}(h:mU agg vs=some v):(agg=some true∧v=.agg vs)∨(agg=some false∧∃c,vs=[c]∧v=.c c):=by
 unfold mU at h
 grind
theorem WM {P M w}(ok:Ok M)(hM:M.H=w.heap){t B o cells vs off v}
  (gi:∀j h,∃u,yF M.H B (o+j)=some u∧zR M cells[j] u)
  (de:ja cells off (P.cellsOf t)=some vs) (hp:mU (jE P t) vs=some v):
  ∃rv,(loadVar t ⟨B,o+off,none⟩).run P w=.ok rv w∧zN M v rv:=by
 obtain⟨h1,h2,h3⟩:=CR de
 have cF:∀j,j<vs.length→∃u,w.cell? ⟨B,o+off+j,none⟩=some u∧∃c,vs[j]? =some c∧zR M c u:=by
  intro j hj
  obtain⟨u,k1,k2⟩:=gi (off+j) (by omega)
  refine⟨u,by rw[oK,←hM,Nat.add_assoc];exact k1,cells[off+j],?_,k2⟩
  grind
 rcases Mb hp with⟨cP,rfl⟩|⟨cP,c,rfl,rfl⟩
 ·obtain⟨⟨d,hd⟩,hr⟩:=oM (P:=P) w cP
  obtain⟨i,hi⟩:=Ha hd
  have hf:∃us:List Value,us.length=vs.length∧∀j (h:j<vs.length),∃u c,us[j]? =some u∧w.cell? ⟨B,o+off+j,none⟩=some u∧vs[j]? =some c∧zR M c u:=by
   refine⟨(List.range vs.length).map fun j=>(w.cell? ⟨B,o+off+j,none⟩).getD undef,by simp,fun j h=>?_⟩
   grind
  obtain⟨us,hl,lf⟩:=hf
  have jh := run_loadCells_list (P := P) w ⟨B, o + off, none⟩ us (fun j u hu=>by
   have hj:j<us.length:=by
    grind
   obtain⟨u',c,k1,k2,_⟩:=lf j (by omega)
   rw[hu] at k1;cases k1
   rw[Addr.add_lit];exact k2)
  refine⟨.agg us.toArray,?_,?_⟩
  ·rw[hl,h3] at jh
   simp[loadVar,hr,fg w hi,jh]
  ·refine⟨us.toArray,rfl,zJ.of_get (by simp_all) fun j k1 k2=>?_⟩
   grind
 ·obtain⟨⟨d,hd⟩,hr⟩:=oM (P:=P) w cP
  obtain⟨u,k1,c',k2,k3⟩:=cF 0 (by simp)
  simp at k2
  subst k2
  refine⟨u,?_,k3⟩
  simp at k1
  simp[loadVar,hr,k1]
theorem Hd {P M w}(ok:Ok M)(hM:M.H=w.heap){t B o cells vs off v}
  (gi:∀j h,∃u,yF M.H B (o+j)=some u∧zR M cells[j] u)
  (de:ja cells off (P.cellsOf t)=some vs) (hp:mU (jE P t) vs=some v):
  qD P (loadVar t ⟨B,o+off,none⟩) M w v []:=by
 obtain⟨rv,h1,h2⟩:=WM (w:=w) ok hM gi de hp
 exact .pure ok hM h1 h2
theorem gj P w a:(Instr.sureAddr (.pointer (some a))).run P w=.ok a w:=rfl
theorem WN {M own cells C}(h:yM M (.box own cells) C):∃B,C.blk=some B∧∀j h,∃u,yF M.H B (0+j)=some u∧zR M cells[j] u:=by
 obtain⟨B,vals,e,h1,h2,h3,h4,h5⟩:=h
 refine⟨B,h1,fun j hj=>?_⟩
 have hl:=h4.length
 have jk:j<vals.size:=by simp_all
 refine⟨vals[j],?_,?_⟩
 ·simp[yF,h3]
 ·have:=h4.get j hj (by omega)
  simp_all
theorem yQi {M cells C}(h:yM M (.robox cells) C):∃B,C.blk=some B∧∀j h,∃u,yF M.H B (0+j)=some u∧zR M cells[j] u:=by
 obtain⟨B,vals,e,h1,h2,h3,h4,h5⟩:=h
 refine⟨B,h1,fun j hj=>?_⟩
 have hl:=h4.length
 have jk:j<vals.size:=by simp_all
 refine⟨vals[j],?_,?_⟩
 ·simp[yF,h3]
 ·have:=h4.get j hj (by omega)
  simp_all
theorem vIp {M own t xs C}(h:yM M (.arr own t xs) C){i}(hi:i<xs.length):∃B,C.blk=some B∧
  ∀j h,∃u,yF M.H B (i*C.sz+j)=some u∧zR M (cellsOf true t (xs.getD i t.dflt))[j] u:=by
 obtain⟨h1,h2,h3,h4⟩:=h
 cases hB:C.blk with
 |none=>simp_all
 |some B=>
  rw[hB] at h4
  obtain⟨vals,e,h5,h6,h7,h8⟩:=h4
  refine⟨B,rfl,fun j hj=>?_⟩
  have:=Hc M true t xs[i] _ (h8 i hi) j (by simp_all)
  obtain⟨v,k1,k2⟩:=this
  refine⟨v,?_,?_⟩
  ·rw[h2];simp[yF,h5];exact k1
  simp_all
theorem He {P t cells off v u}(h:yB (CI P t cells off) v u):
  ∃vs,ja cells off (P.cellsOf t)=some vs∧mU (jE P t) vs=some v∧u=[]:=by
 obtain⟨h',rfl⟩:=L8 h
 rw[Option.bind_eq_some_iff] at h'
 simp_all
theorem je.one {H rb n v}(h:je H rb n v):v.one1=true:=by
 cases rb with
 |none=>obtain⟨rfl,_⟩:=h;rfl
 |some R=>obtain⟨a,c,rfl,_⟩:=h;rfl
theorem xo {M ver xs C}(h:yM M (.mat ver xs) C){i} hi:∃B rb v,C.blk=some B∧C.ver=ver∧
  C.rows[i]? =some (rb,xs[i].length)∧yF M.H B i=some v∧je M.H rb xs[i].length v∧(∀R,rb=some R→∀j (h':j<xs[i].length),yF M.H R j=some (.int .i64 xs[i][j])):=by
 obtain⟨q1,q2,q3,q4,q5,q6⟩:=h
 cases hB:C.blk with
 |none=>grind
 |some B=>
  rw[hB] at q6
  obtain⟨vals,e,q7,q8,q9⟩:=q6
  obtain⟨rb,v,k1,k2,k3,k4⟩:=q9 i hi
  refine⟨B,rb,v,rfl,q1,k1,by simp[yF,q7];exact k2,k3,fun R hR j hj=>?_⟩
  obtain⟨rv,er,k5,k6⟩:=k4 R hR
  simp[yF];simp_all
theorem vBx {P M w}(ok:Ok M)(hM:M.H=w.heap){t a v u ra}(ha:zN M a ra)
  (h:yB (wx P M.h t a) v u):qD P (Instr.loadAt t ra) M w v u:=by
 unfold wx at h
 split at h
 ·split at h
  ·rename_i own cells ab
   obtain⟨vs,h1,h2,rfl⟩:=He h
   obtain⟨C,B,hC,hB,rfl⟩:=ha
   obtain⟨C',au,hO⟩:=ok.obj _ _ ab
   rw[hC] at au;cases au
   obtain⟨B',gk,av⟩:=WN hO
   rw[hB] at gk;cases gk
   have:=Hd (P:=P) ok hM (t:=t) (o:=0) av h1 h2
   simpa[Instr.loadAt,qD,gj] using this
  ·rename_i cells ab
   obtain⟨vs,h1,h2,rfl⟩:=He h
   obtain⟨C,B,hC,hB,rfl⟩:=ha
   obtain⟨C',au,hO⟩:=ok.obj _ _ ab
   rw[hC] at au;cases au
   obtain⟨B',gk,av⟩:=yQi hO
   rw[hB] at gk;cases gk
   have:=Hd (P:=P) ok hM (t:=t) (o:=0) av h1 h2
   simpa[Instr.loadAt,qD,gj] using this
  ·exact h.elim
 ·rename_i sh ty x off
  obtain⟨vs,h1,h2,rfl⟩:=He h
  obtain⟨B,o,rfl,hB,hE⟩:=ha
  have:=Hd (P:=P) ok hM (t:=t) (B:=B) (o:=o) (fun j hj=>Hc M sh ty x _ hE j hj) h1 h2
  simpa[Instr.loadAt,qD,gj] using this
 ·rename_i id i off
  split at h
  ·rename_i own ty xs ab
   obtain⟨vs,h1,h2,rfl⟩:=He h
   obtain⟨C,B,hC,hB,hi,rfl⟩:=ha
   obtain⟨C',au,hO⟩:=ok.obj _ _ ab
   rw[hC] at au;cases au
   obtain⟨B',gk,av⟩:=vIp hO (i:=i) (by rw[←hO.1];exact hi)
   rw[hB] at gk;cases gk
   have:=Hd (P:=P) ok hM (t:=t) av h1 h2
   simpa[Instr.loadAt,qD,gj] using this
  ·exact h.elim
 ·rename_i id i
  split at h
  ·rename_i ver xs ab
   split at h
   ·rename_i cP
    obtain⟨rfl,rfl⟩:=vP h
    obtain⟨C,B,hC,hB,hi,rfl⟩:=ha
    obtain⟨C',au,hO⟩:=ok.obj _ _ ab
    rw[hC] at au;cases au
    obtain⟨B',rb,x,k0,kv,k1,k2,k3,k4⟩:=xo hO (i:=i) (by rw[←hO.2.1];exact hi)
    rw[hB] at k0;cases k0
    obtain⟨_,hr⟩:=oM (P:=P) w cP
    have yF:w.cell? ⟨B,i,none⟩=some x:=by rw[oK,←hM];exact k2
    exact qD.pure ok hM (rv:=x) (by simp[Instr.loadAt,gj,loadVar,hr,yF]) ⟨C,hC,k3.one,by omega,by grind⟩
   ·exact h.elim
  ·exact h.elim
 ·rename_i id i j ver
  split at h
  ·rename_i v' xs ab
   cases hv:Nat.beq v' ver with
   |false=>rw[hv] at h;exact h.elim
   |true=>
    rw[hv] at h
    have hv:=Nat.eq_of_beq_eq_true hv
    subst hv
    split at h
    ·rename_i cP
     obtain⟨rfl,rfl⟩:=vP h
     obtain⟨C,hC,h1,hle,hm⟩:=ha
     obtain⟨C',au,hO⟩:=ok.obj _ _ ab
     rw[hC] at au;cases au
     obtain⟨R,rl,k1,k2,rfl⟩:=hm hO.1
     have hi:i<xs.length:=by
      rw[←hO.2.2.2.1]
      grind
     obtain⟨B',rb,x,q0,qv,q1,q2,q3,q4⟩:=xo hO hi
     rw[k1] at q1
     cases q1
     obtain⟨_,hr⟩:=oM (P:=P) w cP
     have yF:w.cell? ⟨R,j,none⟩=some (.int .i64 xs[i][j]):=by rw[oK,←hM];exact by grind
     refine qD.pure ok hM (rv:=.int .i64 xs[i][j]) (by simp[Instr.loadAt,gj,loadVar,hr,yF]) ?_
     show _=_
     simp[List.getD,hi,k2]
    ·exact h.elim
  ·exact h.elim
 ·exact h.elim
theorem gV h:∀u v,qC h (u++v)=qC (qC h u) v
 |[],_=>rfl
 |(id,o)::u,v=>gV (qY h id o) u v
theorem Md h id o:qC h [(id,o)]=qY h id o:=rfl
theorem xp {h id o}(e:h id=some o):qY h id o=h:=by
 funext n
 by_cases hn:n=id
 ·subst hn;rw[yE];simp_all
 ·rw[yH _ _ hn]
theorem Me:∀vs cells off out,tj cells off vs=some out→
  (vs=[]∨off+vs.length≤cells.length)∧out=cells.take off++vs++cells.drop (off+vs.length)
 |[],cells,off,out,h=>by
  simp[tj] at h
  simp_all
 |v::vs,cells,off,out,h=>by
  unfold tj at h
  cases hb:Nat.blt off cells.length with
  |false=>simp_all
  |true=>
   rw[hb] at h
   have aS:off<cells.length:=Nat.le_of_ble_eq_true hb
   obtain⟨h1,h2⟩:=Me vs (cells.set off v) (off+1) out h
   refine⟨by grind,?_⟩
   have e1:(cells.set off v).take (off+1)=cells.take off++[v]:=by
    rw[List.take_succ_eq_append_getElem (by simp_all),List.take_set_of_le (by simp)]
    simp
   have e2:(cells.set off v).drop (off+1+vs.length)=cells.drop (off+(v::vs).length):=by
    rw[List.drop_set_of_lt (by omega)]
    grind
   simp_all
theorem Hf {M v rv vs}(h:kX v=some vs)(hv:zN M v rv):zJ (zR M) vs rv.cells.toList:=by
 unfold kX at h
 split at h
 ·cases h
  have h1:=zR.one hv
  have:rv.cells=#[rv]:=by cases rv<;>first|rfl|cases h1
  rw[this]
  exact⟨hv,trivial⟩
 ·cases h
  obtain⟨us,rfl,h⟩:=hv
  exact h
 ·cases h
theorem Mh {M}:∀{vs us},zJ (zR M) vs us→∀u∈us,u.one1=true
 |[],[],_,_,h=>by cases h
 |_::_,u::us,hh,x,h=>by
  cases h with
  |head=>exact hh.1.one
  |tail _ h=>exact Mh hh.2 x h
def jl (P:Program)(s:Sem Unit)(M:zH)(w:World)(u:yR):Prop:=
 ∃w' M',s.run P w=.ok () w'∧w'.os=w.os∧w'.tape=w.tape∧w'.output=w.output∧M'.H=w'.heap∧M'.h=qC M.h u∧Ok M'∧yN M M'
def yJ (vals:Array Value)(off:Nat)(us:List Value):Array Value:=(vals.toList.take off++us++vals.toList.drop (off+us.length)).toArray
theorem dW {vals off us}(h:off+us.length≤vals.size):(yJ vals off us).size=vals.size:=by
 simp[yJ];omega
theorem wZ {vals off us}(h:off+us.length≤vals.size) j:
  (yJ vals off us)[j]? =if j<off then vals[j]? else if j<off+us.length then us[j-off]? else vals[j]? :=by
 simp[yJ]
 grind
theorem lg {w:World}{B vals new e}(h:w.heap[B]? =some (.cells vals e (0,0)))(hs:new.size=vals.size):
  (w.setRow B new).heap.size=w.heap.size∧(w.setRow B new).heap[B]? =some (.cells new e (0,0))∧(∀b,b≠B→(w.setRow B new).heap[b]? =w.heap[b]?)∧
  (∀b,qP (w.setRow B new).heap b=qP w.heap b):=by
 have h1:=setRow_heap w B vals new e (0,0) h
 have h2:∀b,b≠B→(w.setRow B new).heap[b]? =w.heap[b]? :=fun b hb=>setRow_other w B b new hb
 refine⟨by simp,h1,h2,fun b=>?_⟩
 by_cases hb:b=B
 ·subst hb;simp[qP,h1,h];exact hs
 ·exact xm (h2 b hb)
theorem Mi {P w t B off vals e rv}(h:w.heap[B]? =some (.cells vals e (0,0)))
  (hn:rv.cells.size=P.cellsOf t) (h0:0<P.cellsOf t) (ax:off+rv.cells.size≤vals.size) (h1:∀u∈rv.cells.toList,u.one1=true):
  (storeVar t ⟨B,off,none⟩ rv).run P w=.ok () (w.setRow B (yJ vals off rv.cells.toList)):=by
 obtain⟨i,hi⟩:=la h0
 have cG:=run_storeCells_at (P:=P) B off e rv.cells.toList 0 vals w h (by omega) (fun v hv=>tz (h1 v hv))
 have:¬rv.cells.size≠P.cellsOf t:=by omega
 simp only[storeVar,Sem.run_bind,fg w hi,Result.andThen_ok,this]
 exact cG
theorem Mj {M M'}(x:yD M M'){cells vs vals us off}(h:zJ (zR M) cells vals.toList)(hv:zJ (zR M) vs us)
  (ax:off+us.length≤vals.size):zJ (zR M') (cells.take off++vs++cells.drop (off+vs.length)) (yJ vals off us).toList:=by
 have hl:=hv.length
 rw[hl]
 exact((h.take off).append hv|>.append (h.drop _)).mono fun _ _ hc=>hc.ext x
def wK (h0 h:Hp):Prop:=∀id,h id=h0 id∨(∃own t xs,h0 id=some (.arr own t xs)∧h id=some (.arr false t xs))∨
 (∃ver xs,h0 id=some (.mat ver xs)∧h id=some (.arr false (.sl (.int .i64)) xs))
theorem wK.refl h:wK h h:=fun _=>.inl rfl
theorem xq {α}{xs:List α}{lo n}(h:lo+n≤xs.length):(qS xs lo n).length=n:=by
 simp[qS];omega
theorem Hg {α}{xs:List α}{lo n i} h:∃h':lo+i<xs.length,(qS xs lo n)[i]=xs[lo+i]:=by
 have:lo+i<xs.length:=by simp[qS] at h;omega
 exact⟨this,by simp[qS]⟩
theorem WO {H G C t xs lo n v}(cN:C.sz=t.size)(hn:lo+n≤xs.length)(h:wL H C lo n v)
  (hx:match C.blk with
   |none=>xs=[]
   |some B=>G B∧∃vals e,H[B]? =some (.cells vals e (0,0))∧∀i h,zV H G t xs[i] (fun j=>vals[i*t.size+j]?)):
  zV H G (.sl t) (qS xs lo n) (fun _=>some v):=by
 obtain⟨A,c,rfl,h⟩:=h
 cases hB:C.blk with
 |none=>
  rw[hB] at h hx
  obtain⟨rfl,rfl,rfl⟩:=h
  exact⟨none,0,0,rfl,by rfl,by simp,.inl ⟨by rfl,by simp⟩⟩
 |some B=>
  rw[hB] at h hx
  obtain⟨hc,a,rfl,ha,ax⟩:=h
  obtain⟨hG,vals,e,hv,hE⟩:=hx
  have hl:=xq hn
  refine⟨_,n,c,rfl,hl.symm,hc,?_⟩
  by_cases h0:n=0
  ·simp_all
  ·refine .inr ⟨B,a,rfl,hG,fun i hi=>?_⟩
   obtain⟨bm,e1⟩:=Hg hi
   have nc:a=lo*C.sz:=by omega
   have e2:(fun j=>yF H B (a+i*t.size+j))=fun j=>vals[(lo+i)*t.size+j]? :=by
    rw[nc,cN,←Nat.add_mul]
    simp[yF,hv]
   simp_all
theorem WQ {α}(xs:List α):qS xs 0 xs.length=xs:=by simp[qS]
theorem tA {M t xs C id r v}(hC:M.κ id=some C)(hO:yM M (.arr false t xs) C)(h:zR M (.osl id r) v):
  zV M.H M.G (.sl t) (fI xs r) (fun _=>some v):=by
 obtain⟨h1,h2,h3,h4⟩:=hO
 obtain⟨C',au,h⟩:=h
 rw[hC] at au;cases au
 have hx:match C.blk with
   |none=>xs=[]
   |some B=>M.G B∧∃vals e,M.H[B]? =some (.cells vals e (0,0))∧∀i (h:i<xs.length),zV M.H M.G t xs[i] (fun j=>vals[i*t.size+j]?):=by
  grind
 cases r with
 |none=>
  have:=WO (G:=M.G) h2 (lo:=0) (n:=C.len) (by omega) h hx
  rw[h1,WQ] at this
  exact this
 |some p=>
  obtain⟨h5,h6,_⟩:=h
  exact WO (G:=M.G) h2 (by omega) h6 hx
theorem WR {M}(ok:Ok M){id t xs}(ab:M.h id=some (.arr true t xs)):
  ∃M',M'.H=M.H∧M'.h=qY M.h id (.arr false t xs)∧Ok M'∧yN M M'∧M'.κ=M.κ:=by
 obtain⟨C,hC,hO⟩:=ok.obj id _ ab
 have oN:yM (M.freeze id (.arr false t xs) C) (.arr false t xs) C:=by
  have x:yD M (M.freeze id (.arr false t xs) C):=⟨fun _ C h=>⟨C,h,C.le_refl⟩,fun _ h=>.inl h,fun _ h=>.inl h,fun _ _=>rfl,fun _ _=>rfl,fun _ _=>rfl⟩
  obtain⟨h1,h2,h3,h4⟩:=hO.ext x fun _ _ _=>rfl
  refine⟨h1,h2,by simp,?_⟩
  cases hB:C.blk with
  |none=>simp_all
  |some B=>
   rw[hB] at h4
   obtain⟨vals,e,h5,h6,h7,h8⟩:=h4
   exact⟨vals,e,h5,fun _=>.inr (by simp[zT.fp,hB]),h7,h8⟩
 have:=zH.freeze_ok ok ab rfl hC rfl oN
 exact⟨M.freeze id _ C,rfl,rfl,this.1,this.2,rfl⟩
theorem WS {M}(ok:Ok M){id t xs}(ab:M.h id=some (.arr true t xs)):
  ∃M',M'.H=M.H∧M'.h=qY M.h id (.arr false t xs)∧Ok M'∧yN M M':=by
 obtain⟨M',h1,h2,h3,h4,_⟩:=WR ok ab
 grind
theorem WT {M}(ok:Ok M){id ver xs}(ab:M.h id=some (.mat ver xs)):
  ∃M',M'.H=M.H∧M'.h=qY M.h id (.arr false (.sl (.int .i64)) xs)∧Ok M'∧yN M M'∧M'.κ=M.κ:=by
 obtain⟨C,hC,hO⟩:=ok.obj id _ ab
 have oN:yM (M.freeze id (.arr false (.sl (.int .i64)) xs) C) (.arr false (.sl (.int .i64)) xs) C:=by
  obtain⟨h1,h2,h3,h4,h5,h6⟩:=hO
  refine⟨h2,h3,by simp,?_⟩
  cases hB:C.blk with
  |none=>rw[hB] at h6;exact h6
  |some B=>
   rw[hB] at h6
   obtain⟨vals,e,h7,h8,h9⟩:=h6
   refine⟨vals,e,h7,fun _=>.inr (by simp[zT.fp,hB]),by simpa[Ty.size] using h8,fun i hi=>?_⟩
   obtain⟨rb,v,k1,k2,k3,k4⟩:=h9 i hi
   simp only[zV,Ty.size,Nat.mul_one,Nat.add_zero]
   cases rb with
   |none=>
    obtain⟨rfl,hl⟩:=k3
    grind
   |some R=>
    obtain⟨a,c,rfl,hc,ha,hs⟩:=k3
    obtain⟨rv,er,k5,k6⟩:=k4 R rfl
    by_cases bX:xs[i]=[]
    ·grind
    have kr:a=0:=by
     have:0<xs[i].length:=by grind
     omega
    subst kr
    refine⟨_,_,c,k2,rfl,hc,.inr ⟨R,0,rfl,.inr ?_,fun j hj=>?_⟩⟩
    ·simp only[zT.fp,List.mem_append]
     grind
    ·have e1:(M.freeze id (Obj.arr false (.sl (.int .i64)) xs) C).H=M.H:=rfl
     simp[e1,yF,k5,Nat.zero_add]
     exact k6 j hj
 have:=zH.freeze_ok ok ab rfl hC rfl oN
 exact⟨M.freeze id _ C,rfl,rfl,this.1,this.2,rfl⟩
theorem WU {M}(ok:Ok M){id ver xs}(ab:M.h id=some (.mat ver xs)):
  ∃M',M'.H=M.H∧M'.h=qY M.h id (.arr false (.sl (.int .i64)) xs)∧Ok M'∧yN M M':=by
 obtain⟨M',h1,h2,h3,h4,_⟩:=WT ok ab
 grind
theorem CT {M}(ok:Ok M){h0}(hf:wK h0 M.h){c c' v u}(hc:zR M c v)(h:kZ h0 c=some (c',u)):
  ∃M',M'.H=M.H∧M'.h=qC M.h u∧Ok M'∧yN M M'∧zR M' c' v∧wK h0 M'.h∧(∀p∈u,p.2.owned=false):=by
 have aaf : c' = c → u = [] → _ := fun e1 e2 => (⟨M,rfl,by rw[e2];rfl,ok,yN.refl M,by simp_all,hf,by simp[e2]⟩:
  ∃M',M'.H=M.H∧M'.h=qC M.h u∧Ok M'∧yN M M'∧zR M' c' v∧wK h0 M'.h∧(∀p∈u,p.2.owned=false))
 cases c with
 |osl id r=>
  have key:∀(t:Ty) (xs:List t.den),(∀M',Ok M'→M'.h id=some (.arr false t xs)→zR M' (.osl id r) v→zR M' (.fsl true t (fI xs r)) v):=by
   intro t xs M' gl l7 ir
   obtain⟨C,hC,hO⟩:=gl.obj id _ l7
   exact tA hC hO ir
  unfold kZ at h
  simp only at h
  split at h
  ·rename_i own t xs iu
   cases h
   rcases hf id with e|⟨o2,t2,Mk,e1,e2⟩|⟨ver,Mk,e1,e2⟩
   ·rw[iu] at e
    cases own with
    |true=>
     obtain⟨M',h1,h2,gl,bz⟩:=WS ok e
     refine⟨M',h1,h2,gl,bz,key t xs M' gl (by rw[h2];exact yE _ _ _) (hc.ext bz.ext),fun n=>?_,by simp[Obj.owned]⟩
     by_cases hn:n=id
     ·subst hn
      exact .inr (.inl ⟨true,t,xs,iu,by rw[h2];exact yE _ _ _⟩)
     ·rw[h2,yH _ _ hn];exact hf n
    |false=>exact⟨M,rfl,(xp e).symm,ok,yN.refl M,by grind,hf,by simp[Obj.owned]⟩
   ·rw[iu] at e1;cases e1
    exact⟨M,rfl,(xp e2).symm,ok,yN.refl M,by grind,hf,by simp[Obj.owned]⟩
   simp_all
  ·rename_i ver xs iu
   split at h
   ·cases h
    rcases hf id with e|⟨o2,t2,Mk,e1,e2⟩|⟨aag,Mk,e1,e2⟩
    ·rw[iu] at e
     obtain⟨M',h1,h2,gl,bz⟩:=WU ok e
     refine⟨M',h1,h2,gl,bz,key (.sl (.int .i64)) xs M' gl (by rw[h2];exact yE _ _ _) (hc.ext bz.ext),fun n=>?_,by simp[Obj.owned]⟩
     by_cases hn:n=id
     ·subst hn
      exact .inr (.inr ⟨ver,xs,iu,by rw[h2];exact yE _ _ _⟩)
     ·rw[h2,yH _ _ hn];exact hf n
    ·simp_all
    ·rw[iu] at e1;cases e1
     exact⟨M,rfl,(xp e2).symm,ok,yN.refl M,key (.sl (.int .i64)) xs M ok e2 hc,hf,by simp[Obj.owned]⟩
   ·cases h
  ·cases h
 |mrow _ _ _=>cases h
 |_=>cases h;simp_all
theorem Mm {h0}:∀{cs aF vs u M},Ok M→wK h0 M.h→zJ (zR M) cs vs→ki h0 cs=some (aF,u)→
  ∃M',M'.H=M.H∧M'.h=qC M.h u∧Ok M'∧yN M M'∧zJ (zR M') aF vs∧wK h0 M'.h∧(∀p∈u,p.2.owned=false)
 |[],aF,[],u,M,ok,hf,_,h=>by cases h;exact⟨M,rfl,rfl,ok,yN.refl M,trivial,hf,by simp⟩
 |c::cs,aF,v::vs,u,M,ok,hf,hc,h=>by
  unfold ki at h
  split at h
  ·rename_i c1 u1 jm nf e1 e2
   cases h
   obtain⟨M1,a1,a2,a3,a4,a5,a6,a7⟩:=CT ok hf hc.1 e1
   obtain⟨M2,b1,b2,b3,b4,b5,b6,b7⟩:=Mm a3 a6 (hc.2.mono fun _ _ k=>k.ext a4.ext) e2
   refine⟨M2,b1.trans a1,by rw[b2,a2,gV],b3,a4.trans b4,⟨a5.ext b4.ext,b5⟩,b6,fun p hp=>?_⟩
   grind
  ·cases h
theorem gW {a b xs ys}(h:eG a b xs=some ys):∃e:a=b,e▸xs=ys:=by
 unfold eG at h
 grind
theorem Mn {a b}(h:Nat.blt a b=true):a<b:=Nat.le_of_ble_eq_true h
theorem yQo {a b}(h:Nat.blt a b=false):¬a<b:=fun hh=>by
 have:Nat.blt a b=true:=Nat.ble_eq_true_of_le hh
 simp_all
theorem WV {k off c n}(h:LF k off c=some n):off=0∧c=.int k n:=by
 unfold LF at h
 split at h
 ·rename_i j m
  cases hb:dB j k with
  |false=>simp_all
  |true=>
   have:=oC hb
   simp_all
 ·cases h
theorem WW {off c n}(h:LG off c=some n):off=0∧c=.bool n:=by
 unfold LG at h
 grind
theorem WX {t off c xs}(h:LH t off c=some xs):off=0∧(c=.fsl true t xs∨(c=.nsl∧xs=[])):=by
 unfold LH at h
 split at h
 ·obtain⟨e,h⟩:=gW h
  grind
 all_goals simp_all
theorem WY {a b p q off c}(h:oD (.pair a b) p off c=some q):
  (off<a.size∧oD a p.1 off c=some q.1∧q.2=p.2)∨(¬off<a.size∧oD b p.2 (off-a.size) c=some q.2∧q.1=p.1):=by
 simp[oD] at h
 cases hb:Nat.blt off a.size with
 |true=>
  rw[hb] at h
  split at h
  ·cases h
   simp_all
  ·cases h
 |false=>
  rw[hb] at h
  simp  at h
  split at h
  ·rename_i x hx
   cases h
   exact .inr ⟨yQo hb,hx,rfl⟩
  ·cases h
theorem WZ:∀{t x y off c},oD t x off c=some y→off<t.size
 |.int k,x,y,off,c,h=>by rw[(WV h).1];simp[Ty.size]
 |.bool,x,y,off,c,h=>by rw[(WW h).1];simp[Ty.size]
 |.sl t,x,y,off,c,h=>by rw[(WX h).1];simp[Ty.size]
 |.pair a b,x,y,off,c,h=>by
  simp[Ty.size]
  rcases WY h with⟨h1,_⟩|⟨h1,h2,_⟩
  ·omega
  ·have:=WZ h2;omega
theorem Mo {M}:∀t x y off c u rd dD,zV M.H M.G t x rd→oD t x off c=some y→zR M c u→
  dD off=some u→(∀j,j≠off→j<t.size→dD j=rd j)→zV M.H M.G t y dD
 |.int k,x,y,off,c,u,rd,dD,hE,h,hc,hr,gi=>by
  obtain⟨rfl,rfl⟩:=WV h
  simp[zV]
  rw[hr,show u=_ from hc]
 |.bool,x,y,off,c,u,rd,dD,hE,h,hc,hr,gi=>by
  obtain⟨rfl,rfl⟩:=WW h
  simp[zV]
  rw[hr,show u=_ from hc]
 |.sl t,x,y,off,c,u,rd,dD,hE,h,hc,hr,gi=>by
  obtain⟨rfl,rfl|⟨rfl,rfl⟩⟩:=WX h
  ·have ir:zV M.H M.G (.sl t) y (fun _=>some u):=hc
   refine yO (by simp) (by simp) _ _ _ _ (fun j hj=>?_) ir
   simp[Ty.size] at hj
   simp_all
  ·exact⟨none,0,0,by rw[hr,show u=_ from hc],rfl,by simp,by simp⟩
 |.pair a b,x,y,off,c,u,rd,dD,hE,h,hc,hr,gi=>by
  simp[Ty.size] at gi
  rcases WY h with⟨h1,h2,h3⟩|⟨h1,h2,h3⟩
  ·refine⟨Mo a _ _ off c u rd dD hE.1 h2 hc hr (by grind),?_⟩
   rw[h3]
   exact yO (by simp) (by simp) _ _ _ _ (by grind) hE.2
  ·refine⟨?_,Mo b _ _ (off-a.size) c u _ _ hE.2 h2 hc (by simp_all) (by grind)⟩
   rw[h3]
   exact yO (by simp) (by simp) _ _ _ _ (by grind) hE.1
theorem W0 {t}:∀{vs x y off},oE t x off vs=some y→vs=[]∨off+vs.length≤t.size
 |[],_,_,_,_=>.inl rfl
 |v::vs,x,y,off,h=>by
  unfold oE at h
  split at h
  ·rename_i z hz
   have h1:=WZ hz
   rcases W0 h with rfl|h2
   all_goals grind
  ·cases h
theorem Mp {M} t:∀vs us x y off rd dD,zV M.H M.G t x rd→oE t x off vs=some y→zJ (zR M) vs us→
  (∀i,i<us.length→dD (off+i)=us[i]?)→(∀j,(j<off∨off+us.length≤j)→j<t.size→dD j=rd j)→zV M.H M.G t y dD
 |[],[],x,y,off,rd,dD,hE,h,_,_,gi=>by
  cases h
  exact yO (by simp) (by simp) _ _ _ _ (by grind) hE
 |v::vs,u::us,x,y,off,rd,dD,hE,h,hc,hr,gi=>by
  unfold oE at h
  split at h
  ·rename_i z hz
   have h1:=Mo t x z off v u rd (fun j=>if j=off then some u else rd j) hE hz hc.1 (by simp) (by grind)
   refine Mp t vs us z y (off+1) _ dD h1 h hc.2 (fun i hi=>?_) (fun j hj rj=>?_)
   ·have:=hr (i+1) (by simp;omega)
    grind
   ·by_cases e:j=off
    ·have:=hr 0 (by simp)
     simp_all
    grind
  ·cases h
theorem W1 {i k sz j:Nat}(h:i≠k)(hj:j<sz):k*sz+j<i*sz∨i*sz+sz≤k*sz+j:=by
 rcases Nat.lt_or_gt_of_ne h with h|h
 ·have:=Nat.mul_le_mul_right sz (show i+1≤k by omega)
  grind
 ·have:=Nat.mul_le_mul_right sz (show k+1≤i by omega)
  grind
theorem yWw {C:zT}(hn:C.fp.Nodup){i k:Nat}{R R':Nat}{a b:Nat}(hi:C.rows[i]? =some (some R,a))(hk:C.rows[k]? =some (some R',b))(h:i≠k):R≠R':=by
 intro e
 subst e
 have xr:(C.rows.filterMap (·.1)).Nodup:=(List.nodup_append.1 hn).2.1
 clear hn
 have gen:∀(l:List (Option Nat×Nat)) (i k:Nat),i<k→l[i]? =some (some R,a)∨l[i]? =some (some R,b)→l[k]? =some (some R,b)∨l[k]? =some (some R,a)→(l.filterMap (·.1)).Nodup→False:=by
  intro l
  induction l with
  |nil=>intro i k _ h1 _ _;simp at h1
  |cons x l ih=>
   intro i k Mq h1 h2 hn
   obtain⟨k,rfl⟩:∃m,k=m+1:=⟨k-1,by omega⟩
   have bn:R∈l.filterMap (·.1):=by
    simp only[List.getElem?_cons_succ] at h2
    rcases h2 with h2|h2<;>exact List.mem_filterMap.2 ⟨_,List.mem_of_getElem? h2,rfl⟩
   cases i with
   |zero=>
    grind
   |succ i=>
    grind
 grind
theorem Mr {C:zT}(hn:C.fp.Nodup){k R B b:Nat}(hk:C.rows[k]? =some (some R,b))(hB:C.blk=some B):R≠B:=by
 intro e
 subst e
 have:=(List.nodup_append.1 hn).2.2 R (by simp[hB]) R (by grind)
 omega
theorem jX {C:zT}{B}(h:C.blk=some B):B∈C.fp:=by simp[zT.fp,h]
theorem yZw {C:zT}{k R b:Nat}(h:C.rows[k]? =some (some R,b)):R∈C.fp:=by
 simp[zT.fp]
 grind
theorem Ms {P M w}(ok:Ok M)(hM:M.H=w.heap){t id o o' C B off vals e rv}
  (ab:M.h id=some o) (aA:o.owned=true) (hC:M.κ id=some C) (hB:B∈C.fp) (hb:M.H[B]? =some (.cells vals e (0,0)))
  (hn:rv.cells.size=P.cellsOf t) (h0:0<P.cellsOf t) (ax:off+rv.cells.size≤vals.size) (h1:∀u∈rv.cells.toList,u.one1=true)
  (hO:∀M',M'.κ=κset M.κ id C→M'.F=M.F→M'.G=M.G→yD M M'→M'.H[B]? =some (.cells (yJ vals off rv.cells.toList) e (0,0))→(∀b,b≠B→M'.H[b]? =M.H[b]?)→yM M' o' C):
  jl P (storeVar t ⟨B,off,none⟩ rv) M w [(id,o')]:=by
 have bj:w.heap[B]? =some (.cells vals e (0,0)):=by simp_all
 have hr:=Mi (P:=P) bj hn h0 ax h1
 obtain⟨f1,f2,f3,f4⟩:=lg bj (new:=yJ vals off rv.cells.toList) (dW (by omega))
 have hH:∀b,b∉C.fp→(w.setRow B (yJ vals off rv.cells.toList)).heap[b]? =M.H[b]? :=by grind
 have bZ:∀b,b<M.H.size→qP (w.setRow B (yJ vals off rv.cells.toList)).heap b=qP M.H b:=by grind
 have x:=zH.write_ext ok ab aA hC C.le_refl hH bZ o'
 have:=zH.write_ok ok ab aA hC C.le_refl (by simp) (by rw[hM];exact f1) hH bZ
  (hO (M.write id o' C _) rfl rfl rfl x f2 (fun b oO=>by rw[hM];exact f3 b oO))
 exact⟨_,_,hr,rfl,rfl,rfl,rfl,rfl,this.1,this.2⟩
theorem yN6 {P M w}(ok:Ok M)(hM:M.H=w.heap){t id off cells bo vs B C rv}
  (ab:M.h id=some (.box true cells)) (hC:M.κ id=some C) (hB:C.blk=some B) (cB:zJ (zR M) vs rv.cells.toList) (hn:vs.length=P.cellsOf t) (h0:0<vs.length)
  (hp:tj cells off vs=some bo):jl P (storeVar t ⟨B,off,none⟩ rv) M w [(id,.box true bo)]:=by
 obtain⟨C',au,hO⟩:=ok.obj id _ ab
 rw[hC] at au;cases au
 obtain⟨B',vals,e,k1,k2,k3,k4,k5⟩:=hO
 rw[hB] at k1;cases k1
 obtain⟨p1,p2⟩:=Me vs cells off bo hp
 have hl:vs.length=rv.cells.size:=by simpa using cB.length
 have ax:off+rv.cells.size≤vals.size:=by
  have:=k4.length
  grind
 refine Ms ok hM ab rfl hC (jX hB) k3 (by omega) (by omega) ax (Mh cB) fun M' _ _ hG x h1 h2=>?_
 refine⟨B,_,e,hB,k2,h1,?_,by simp⟩
 rw[p2]
 exact Mj x k4 cB (by omega)
theorem yRp {P M w}(ok:Ok M)(hM:M.H=w.heap){t id i off ty xs x vs B C rv}
  (ab:M.h id=some (.arr true ty xs)) (hC:M.κ id=some C) (hB:C.blk=some B) (hi:i<C.len) (cB:zJ (zR M) vs rv.cells.toList) (hn:vs.length=P.cellsOf t) (h0:0<vs.length)
  (hp:oE ty (xs.getD i ty.dflt) off vs=some x):jl P (storeVar t ⟨B,i*C.sz+off,none⟩ rv) M w [(id,.arr true ty (xs.set i x))]:=by
 obtain⟨C',au,hO⟩:=ok.obj id _ ab
 rw[hC] at au;cases au
 obtain⟨k1,k2,k3,k4⟩:=hO
 rw[hB] at k4
 obtain⟨vals,e,k5,k6,k7,k8⟩:=k4
 have hl:vs.length=rv.cells.size:=by simpa using cB.length
 have aah:off+vs.length≤ty.size:=by
  rcases W0 hp with rfl|h
  ·simp at h0
  ·exact h
 have CU:i<xs.length:=by omega
 have e1:xs.getD i ty.dflt=xs[i]:=by simp[List.getD,CU]
 have aL:=Nat.mul_le_mul_right ty.size (show i+1≤xs.length by omega)
 rw[Nat.add_mul] at aL
 have ax:i*C.sz+off+rv.cells.size≤vals.size:=by rw[k2];omega
 refine Ms ok hM ab rfl hC (jX hB) k5 (by omega) (by omega) ax (Mh cB) fun M' _ _ hG xt h1 h2=>?_
 refine⟨by simp_all,k2,k3,?_⟩
 rw[hB]
 refine⟨_,e,h1,by simp,by rw[List.length_set,dW (by simpa using ax)];exact k7,fun k hk=>?_⟩
 rw[List.length_set] at hk
 have Hh:=yO (F:=M.G) (F':=M'.G) xt.G xt.sameG ty _ _ _ (fun _ _=>rfl) (k8 k hk)
 by_cases e2:k=i
 ·subst e2
  simp
  refine Mp ty vs rv.cells.toList xs[k] x off _ _ Hh (by rw[←e1];exact hp) (cB.mono fun _ _ h=>h.ext xt) (fun j hj=>?_) (fun j hj rj=>?_)
  ·rw[wZ (by simpa using ax),if_neg (by rw[k2];omega),if_pos (by grind),k2]
   congr 1;omega
  ·rw[wZ (by simpa using ax)]
   grind
 ·rw[List.getElem_set_ne (by grind)]
  refine yO (by simp) (by simp) ty _ _ _ (fun j hj=>?_) Hh
  rw[wZ (by simpa using ax)]
  rw[k2]
  rcases W1 (Ne.symm e2) hj with h|h
  all_goals grind
theorem yZ6 {P M w}(ok:Ok M)(hM:M.H=w.heap){t id i j ver xs n R rl C}
  (ab:M.h id=some (.mat ver xs)) (hC:M.κ id=some C) (hR:C.rows[i]? =some (some R,rl)) (hj:j<rl) (hn:1=P.cellsOf t):
  jl P (storeVar t ⟨R,j,none⟩ (.int .i64 n)) M w [(id,.mat ver (xs.set i ((xs.getD i []).set j n)))]:=by
 obtain⟨C',au,hO⟩:=ok.obj id _ ab
 rw[hC] at au;cases au
 obtain⟨k1,k2,k3,k4,k5,k6⟩:=hO
 have hi:i<xs.length:=by
  rw[←k4]
  rcases Nat.lt_or_ge i C.rows.length with h|h
  ·exact h
  ·rw[List.getElem?_eq_none h] at hR;cases hR
 cases hB:C.blk with
 |none=>rw[hB] at k6;subst k6;simp at hi
 |some B=>
  rw[hB] at k6
  obtain⟨vals,e,k7,k8,k9⟩:=k6
  obtain⟨rb,v,q1,q2,q3,q4⟩:=k9 i hi
  rw[hR] at q1
  cases q1
  obtain⟨rv,er,q5,q6⟩:=q4 R rfl
  have hRB:R≠B:=Mr k5 hR hB
  have rj:j<rv.size:=by
   have:=q6 j hj
   rcases Nat.lt_or_ge j rv.size with h|h
   ·exact h
   ·rw[Array.getElem?_eq_none h] at this;cases this
  have e1:xs.getD i []=xs[i]:=by simp[List.getD,hi]
  refine Ms ok hM ab rfl hC (yZw hR) q5 (by rw[←hn];rfl) (by omega) (by show j+1≤rv.size;omega) (by intro u hu;simp[Value.cells] at hu;subst hu;rfl) fun M' _ _ hG x h1 h2=>?_
  refine⟨k1,by rw[List.length_set];exact k2,k3,by rw[List.length_set];exact k4,k5,?_⟩
  rw[hB]
  refine⟨vals,e,by rw[h2 B (Ne.symm hRB)];exact k7,by rw[List.length_set];exact k8,fun k hk=>?_⟩
  rw[List.length_set] at hk
  by_cases e2:k=i
  ·subst e2
   simp only[List.getElem_set_self,e1,List.length_set]
   refine⟨some R,v,hR,q2,q3.ext x,fun R' tB=>?_⟩
   cases tB
   refine⟨_,er,h1,fun m hm=>?_⟩
   rw[wZ (by show j+1≤rv.size;omega)]
   show(if m<j then rv[m]? else if m<j+1 then[Value.int .i64 n][m-j]? else rv[m]?)=_
   grind
  ·rw[List.getElem_set_ne (Ne.symm e2)]
   obtain⟨l8,v',p1,p2,p3,p4⟩:=k9 k hk
   refine⟨l8,v',p1,p2,p3.ext x,fun R' tB=>?_⟩
   subst tB
   obtain⟨oP,CV,p5,p6⟩:=p4 R' rfl
   exact⟨oP,CV,by rw[h2 R' (yWw k5 p1 hR e2)];exact p5,p6⟩
theorem Hi {x}:∀(l:List (Option Nat×Nat)) i,(l.filterMap (·.1)).Nodup→(∀R,x.1=some R→R∉l.filterMap (·.1))→
  ((l.set i x).filterMap (·.1)).Nodup∧∀y∈(l.set i x).filterMap (·.1),y∈l.filterMap (·.1)∨x.1=some y
 |[],_,h,_=>by simp
 |a::l,0,h,hx=>by
  grind
 |a::l,i+1,h,hx=>by
  simp only[List.set_cons_succ]
  cases ha:a.1 with
  |none=>
   rw[List.filterMap_cons_none ha] at h hx⊢
   rw[List.filterMap_cons_none ha]
   exact Hi l i h hx
  |some z=>
   rw[List.filterMap_cons_some ha] at h hx⊢
   obtain⟨h1,h2⟩:=List.nodup_cons.1 h
   obtain⟨k1,k2⟩:=Hi l i h2 fun R hR hm=>hx R hR (by grind)
   grind
def zH.absorb (M:zH)(id jd:Nat)(o:Obj)(C:zT)(H:Array Go.Obj):zH:={M with κ:=κset M.κ id C,h:=qY (qY M.h jd .gone) id o,H:=H}
theorem zH.absorb_ok {M}(ok:Ok M){id jd o oj o' C Cj C' H'}(aW:id≠jd)(ab:M.h id=some o)(aA:o.owned=true)(hC:M.κ id=some C)
    (cm:M.h jd=some oj) (rk:oj.owned=true) (cW:M.κ jd=some Cj) (hle:C.le C') (mZ:∀b∈C'.fp,b∈C.fp∨b∈Cj.fp) (cN:H'.size=M.H.size)
    (hH:∀b,b∉C.fp→H'[b]? =M.H[b]?) (bZ:∀b,b<M.H.size→qP H' b=qP M.H b)
    (hO:yD M (M.absorb id jd o' C' H')→yM (M.absorb id jd o' C' H') o' C'):Ok (M.absorb id jd o' C' H')∧yN M (M.absorb id jd o' C' H'):=by
  have rf:∀b,M.F b→b∉C.fp:=fun b hF hb=>(ok.own b ⟨id,o,C,ab,aA,hC,hb⟩).1 hF
  have x:yD M (M.absorb id jd o' C' H'):=
    { κ:=fun n D h=>by
        by_cases e:n=id
        · subst e
          rw[hC] at h
          cases h
          exact⟨C',κset_same _ _ _,hle⟩
        · exact⟨D,by simp only[zH.absorb];rw[κset_ne _ _ e];exact h,D.le_refl⟩
      F:=fun _ h=>h
      G:=fun _ h=>h
      same:=fun b h=>hH b (rf b h)
      sameG:=fun b h=>hH b (rf b (ok.GF b h))
      bsz:=bZ}
  have bj:∀b∈C'.fp,qH M b:=fun b hb=>by
    rcases mZ b hb with hb|hb
    · exact⟨id,o,C,ab,aA,hC,hb⟩
    · exact⟨jd,oj,Cj,cm,rk,cW,hb⟩
  have cF:∀n q,n≠id→(M.absorb id jd o' C' H').h n=some q→q.owned=true→n≠jd∧M.h n=some q:=by
    intro n q e h1 h2
    simp only[zH.absorb] at h1
    rw[yH _ _ e] at h1
    by_cases e':n=jd
    · subst e'
      rw[yE] at h1
      cases h1
      cases h2
    · rw[yH _ _ e'] at h1
      simp_all
  have oL:∀b,qH (M.absorb id jd o' C' H') b→qH M b:=by
    rintro b ⟨n,q,D,h1,h2,h3,h4⟩
    by_cases e:n=id
    · subst e
      simp only[zH.absorb,κset_same,Option.some.injEq] at h3
      simp_all
    · obtain⟨e',fJ⟩:=cF n q e h1 h2
      simp only[zH.absorb] at h3
      rw[κset_ne _ _ e] at h3
      exact⟨n,q,D,fJ,h2,h3,h4⟩
  refine⟨ok.build x (fun n=>n=id∨n=jd) (fun n hn=>?_) (fun n hn=>κset_ne _ _ (by grind)) ?_ ?_ (by simp only[zH.absorb];omega) ?_ ?_ ?_ ok.GF ?_,x,by simp only[zH.absorb];omega,?_,by grind,fun b h _=>.inl h,fun b h _=>.inl h⟩
  · simp only[zH.absorb]
    rw[yH _ _ (by grind),yH _ _ (by grind)]
  · intro n q D hn h1 h2 h3 b hb
    exact hH b fun hc=>ok.disj n id q o D C b (by grind) h1 ab h2 aA h3 hC hb hc
  · intro n q D hn h1 h2 h3 b hb
    exact(ok.own b ⟨n,q,D,h1,h2,h3,hb⟩).1
  · rintro n q (rfl|rfl) h1
    · simp only[zH.absorb,yE,Option.some.injEq] at h1
      subst h1
      exact⟨C',κset_same _ _ _,hO x⟩
    · simp only[zH.absorb] at h1
      rw[yH _ _ (Ne.symm aW),yE] at h1
      cases h1
      exact⟨Cj,by simp only[zH.absorb];rw[κset_ne _ _ (by grind)];omega,trivial⟩
  · rintro n (rfl|rfl) h1
    · simp only[zH.absorb,yE] at h1
      cases h1
    · simp only[zH.absorb] at h1
      rw[yH _ _ (by grind),yE] at h1
      cases h1
  · rintro n q D b (rfl|rfl) h1 h2 h3 hb
    · simp only[zH.absorb,κset_same,Option.some.injEq] at h3
      subst h3
      have hbo:=ok.own b (bj b hb)
      refine⟨fun j qj Dj hj k1 k2 k3 k4=>?_,hbo.1,by simp only[zH.absorb];omega⟩
      obtain⟨Mt,xu⟩:=cF j qj hj k1 k2
      simp only[zH.absorb] at k3
      rw[κset_ne _ _ hj] at k3
      rcases mZ b hb with hb|hb
      · exact ok.disj j n qj o Dj C b hj xu ab k2 aA k3 hC k4 hb
      · exact ok.disj j jd qj oj Dj Cj b Mt xu cm k2 rk k3 cW k4 hb
    grind
  · intro b hb
    have:=ok.Flt b hb
    simp only[zH.absorb];omega
  · intro b hb hn
    exact hH b fun hc=>hn ⟨id,o,C,ab,aA,hC,hc⟩
theorem CW {M t xs C}(h:yM M (.arr true t xs) C):C.rows=[]∧C.fp=C.blk.toList:=by
 have:=h.2.2.1 rfl
 exact⟨this,by simp[zT.fp,this]⟩
theorem Mu {M}{ys:List Int}{C jd v}(hC:M.κ jd=some C)(hO:yM M (.arr true (.int .i64) ys) C)(hv:zR M (.osl jd none) v):
  je M.H C.blk ys.length v∧∀R,C.blk=some R→∃rv er,M.H[R]? =some (.cells rv er (0,0))∧∀j (h':j<ys.length),rv[j]? =some (.int .i64 ys[j]):=by
 obtain⟨h1,h2,h3,h4⟩:=hO
 obtain⟨C',au,A,c,rfl,h⟩:=hv
 rw[hC] at au;cases au
 cases hB:C.blk with
 |none=>
  rw[hB] at h
  obtain⟨rfl,e,rfl⟩:=h
  exact⟨⟨by rw[e],by omega⟩,by simp⟩
 |some B=>
  rw[hB] at h h4
  obtain⟨hc,a,rfl,ha,hs⟩:=h
  obtain⟨vals,e,h5,h6,h7,h8⟩:=h4
  refine⟨⟨a,c,by rw[h1],by omega,by omega,by simpa[h2,Ty.size] using hs⟩,fun R hR=>?_⟩
  cases hR
  refine⟨vals,e,h5,fun j hj=>?_⟩
  have:=h8 j hj
  simpa[zV,Ty.size] using this
theorem yYf {P M w}(ok:Ok M)(hM:M.H=w.heap){t id jd i ver xs}{ys:List Int}{B C rv}
  (ab:M.h id=some (.mat ver xs)) (hC:M.κ id=some C) (hB:C.blk=some B) (hi:i<C.len) (cm:M.h jd=some (.arr true (.int .i64) ys)) (hv:zR M (.osl jd none) rv) (hn:1=P.cellsOf t):
  jl P (storeVar t ⟨B,i,none⟩ rv) M w [(jd,.gone),(id,.mat (ver+1) (xs.set i ys))]:=by
 obtain⟨C',au,hO⟩:=ok.obj id _ ab
 rw[hC] at au;cases au
 obtain⟨Cj,cW,kt⟩:=ok.obj jd _ cm
 obtain⟨jr,jf⟩:=CW kt
 have aW:id≠jd:=fun e=>by rw[e,cm] at ab;cases ab
 obtain⟨r1,r2⟩:=Mu cW kt hv
 obtain⟨k1,k2,k3,k4,k5,k6⟩:=hO
 rw[hB] at k6
 obtain⟨vals,e,k7,k8,k9⟩:=k6
 have bj:w.heap[B]? =some (.cells vals e (0,0)):=by rw[←hM];exact k7
 have bP:=hv.one
 have av:rv.cells=#[rv]:=by cases rv<;>first|rfl|cases bP
 have ax:i+rv.cells.size≤vals.size:=by rw[av];show i+1≤vals.size;omega
 have cH:i+rv.cells.toList.length≤vals.size:=by rw[Array.length_toList];exact ax
 have hr:=Mi (P:=P) (t:=t) (off:=i) (rv:=rv) bj (by rw[av];exact hn) (by omega) ax (by intro u hu;rw[av] at hu;simp at hu;subst hu;exact bP)
 obtain⟨f1,f2,f3,f4⟩:=lg bj (new:=yJ vals i rv.cells.toList) (dW cH)
 have cQ:∀R,Cj.blk=some R→R∉C.fp:=fun R hR hm=>ok.disj id jd _ _ C Cj R aW ab cm rfl rfl hC cW hm (jX hR)
 have cC:=List.nodup_append.1 k5
 obtain⟨s1,s2⟩:=Hi (x:=(Cj.blk,ys.length)) C.rows i cC.2.1 (fun R hR hm=>cQ R hR (by simp only[zT.fp,List.mem_append];exact .inr hm))
 let D:zT:={C with ver:=ver+1,rows:=C.rows.set i (Cj.blk,ys.length)}
 have tC:∀b∈D.fp,b∈C.fp∨b∈Cj.fp:=fun b hb=>by
  simp only[zT.fp,List.mem_append] at hb
  rcases hb with hb|hb
  ·exact .inl (by simp only[zT.fp,List.mem_append];exact .inl hb)
  ·rcases s2 b hb with hb|hb
   ·exact .inl (by simp only[zT.fp,List.mem_append];exact .inr hb)
   ·exact .inr (jX hb)
 have tD:D.fp.Nodup:=by
  refine List.nodup_append.2 ⟨cC.1,s1,fun a ha b hb e=>?_⟩
  subst e
  rcases s2 a hb with hb|hb
  ·exact cC.2.2 a ha a hb rfl
  ·exact cQ a hb (by simp only[zT.fp,List.mem_append];exact .inl ha)
 have:=zH.absorb_ok (H':=(w.setRow B (yJ vals i rv.cells.toList)).heap) (o':=.mat (ver+1) (xs.set i ys)) (C':=D) ok aW ab rfl hC cm rfl cW ⟨rfl,rfl,rfl,by show C.ver≤ver+1;omega,by grind⟩ tC
  (by rw [hM]; exact f1) (fun b oO => by rw [hM]; exact f3 b fun e => oO (e ▸ jX hB)) (fun b _ => by rw [hM]; exact f4 b) (fun x=>by
   refine⟨rfl,by rw[List.length_set];exact k2,k3,by simp only[D,List.length_set];exact k4,tD,?_⟩
   have Mv:D.blk=some B:=hB
   rw[Mv]
   refine⟨_,e,f2,by rw[List.length_set,dW cH];exact k8,fun k hk=>?_⟩
   rw[List.length_set] at hk
   by_cases e2:k=i
   ·subst e2
    simp only[List.getElem_set_self]
    refine⟨Cj.blk,rv,?_,?_,r1.ext x,fun R hR=>?_⟩
    ·simp only[D];rw[List.getElem?_set_self (by omega)]
    ·rw[wZ cH,if_neg (by omega),if_pos (by rw[av];show k<k+1;omega),av]
     simp
    ·obtain⟨oP,er,q5,q6⟩:=r2 R hR
     refine⟨oP,er,?_,q6⟩
     have:R≠B:=fun e=>cQ R hR (e▸jX hB)
     show(w.setRow B _).heap[R]? =_
     rw[f3 R this,←hM];exact q5
   ·rw[List.getElem_set_ne (Ne.symm e2)]
    obtain⟨l8,v',p1,p2,p3,p4⟩:=k9 k hk
    refine⟨l8,v',?_,?_,p3.ext x,fun R' tB=>?_⟩
    ·simp only[D];rw[List.getElem?_set_ne (Ne.symm e2)];exact p1
    ·rw[wZ cH,av]
     show(if k<i then vals[k]? else if k<i+1 then _ else vals[k]?)=_
     split
     ·exact p2
     ·rw[if_neg (by omega)];exact p2
    ·subst tB
     obtain⟨oP,CV,p5,p6⟩:=p4 R' rfl
     refine⟨oP,CV,?_,p6⟩
     have:R'≠B:=Mr k5 p1 hB
     show(w.setRow B _).heap[R']? =_
     rw[f3 R' this,←hM];exact p5)
 exact⟨_,_,hr,rfl,rfl,rfl,rfl,rfl,this.1,this.2⟩
theorem vEr {P M w}(ok:Ok M)(hM:M.H=w.heap){t id jd ver n xs}{ys:List Int}{B C rv}
  (ab:M.h id=some (.pmat ver xs n)) (hC:M.κ id=some C) (hB:C.blk=some B) (hi:xs.length<C.len) (cm:M.h jd=some (.arr true (.int .i64) ys)) (hv:zR M (.osl jd none) rv) (hn:1=P.cellsOf t):
  jl P (storeVar t ⟨B,xs.length,none⟩ rv) M w [(jd,.gone),(id,.pmat (ver+1) (xs++[ys]) n)]:=by
 obtain⟨C',au,hO⟩:=ok.obj id _ ab
 rw[hC] at au;cases au
 obtain⟨Cj,cW,kt⟩:=ok.obj jd _ cm
 obtain⟨jr,jf⟩:=CW kt
 have aW:id≠jd:=fun e=>by rw[e,cm] at ab;cases ab
 obtain⟨r1,r2⟩:=Mu cW kt hv
 obtain⟨k1,k2,k3,k4,k5,k0,k6⟩:=hO
 rw[hB] at k6
 obtain⟨vals,e,k7,k8,k9⟩:=k6
 have bj:w.heap[B]? =some (.cells vals e (0,0)):=by rw[←hM];exact k7
 have bP:=hv.one
 have av:rv.cells=#[rv]:=by cases rv<;>first|rfl|cases bP
 have ax:xs.length+rv.cells.size≤vals.size:=by rw[av];show xs.length+1≤vals.size;omega
 have cH:xs.length+rv.cells.toList.length≤vals.size:=by rw[Array.length_toList];exact ax
 have hr:=Mi (P:=P) (t:=t) (off:=xs.length) (rv:=rv) bj (by rw[av];exact hn) (by omega) ax (by intro u hu;rw[av] at hu;simp at hu;subst hu;exact bP)
 obtain⟨f1,f2,f3,f4⟩:=lg bj (new:=yJ vals xs.length rv.cells.toList) (dW cH)
 have cQ:∀R,Cj.blk=some R→R∉C.fp:=fun R hR hm=>ok.disj id jd _ _ C Cj R aW ab cm rfl rfl hC cW hm (jX hR)
 have cC:=List.nodup_append.1 k5
 have Mw:(C.rows++[(Cj.blk,ys.length)]).filterMap (·.1)=C.rows.filterMap (·.1)++Cj.blk.toList:=by
  rw[List.filterMap_append]
  cases Cj.blk<;>simp
 have s1:((C.rows++[(Cj.blk,ys.length)]).filterMap (·.1)).Nodup:=by
  rw[Mw]
  refine List.nodup_append.2 ⟨cC.2.1,by cases Cj.blk<;>simp,fun x hx y hy e=>?_⟩
  subst e
  have:Cj.blk=some x:=by simpa using hy
  exact cQ x this (by simp only[zT.fp,List.mem_append];exact .inr hx)
 have s2:∀y∈(C.rows++[(Cj.blk,ys.length)]).filterMap (·.1),y∈C.rows.filterMap (·.1)∨Cj.blk=some y:=by simp
 let D:zT:={C with ver:=ver+1,rows:=C.rows++[(Cj.blk,ys.length)]}
 have tC:∀b∈D.fp,b∈C.fp∨b∈Cj.fp:=fun b hb=>by
  simp only[zT.fp,List.mem_append] at hb
  rcases hb with hb|hb
  ·exact .inl (by simp only[zT.fp,List.mem_append];exact .inl hb)
  ·rcases s2 b hb with hb|hb
   ·exact .inl (by simp only[zT.fp,List.mem_append];exact .inr hb)
   ·exact .inr (jX hb)
 have tD:D.fp.Nodup:=by
  refine List.nodup_append.2 ⟨cC.1,s1,fun a ha b hb e=>?_⟩
  subst e
  rcases s2 a hb with hb|hb
  ·exact cC.2.2 a ha a hb rfl
  ·exact cQ a hb (by simp only[zT.fp,List.mem_append];exact .inl ha)
 have:=zH.absorb_ok (H':=(w.setRow B (yJ vals xs.length rv.cells.toList)).heap) (o':=.pmat (ver+1) (xs++[ys]) n) (C':=D) ok aW ab rfl hC cm rfl cW ⟨rfl,rfl,rfl,by show C.ver≤ver+1;omega,fun e=>by have:ver+1=C.ver:=e;omega⟩ tC
  (by rw [hM]; exact f1) (fun b oO => by rw [hM]; exact f3 b fun e => oO (e ▸ jX hB)) (fun b _ => by rw [hM]; exact f4 b) (fun x=>by
   refine⟨rfl,k2,k3,by simp only[D,List.length_append,k4];rfl,tD,by simp;omega,?_⟩
   have Mv:D.blk=some B:=hB
   rw[Mv]
   refine⟨_,e,f2,by rw[dW cH];exact k8,fun k hk=>?_⟩
   rw[List.length_append,List.length_singleton] at hk
   by_cases e2:k=xs.length
   ·subst e2
    simp only[List.getElem_concat_length]
    refine⟨Cj.blk,rv,?_,?_,r1.ext x,fun R hR=>?_⟩
    ·simp only[D];rw[List.getElem?_append_right (by omega),k4];simp
    ·rw[wZ cH,if_neg (by omega),if_pos (by rw[av];show xs.length<xs.length+1;omega),av]
     simp
    ·obtain⟨oP,er,q5,q6⟩:=r2 R hR
     refine⟨oP,er,?_,q6⟩
     have:R≠B:=fun e=>cQ R hR (e▸jX hB)
     show(w.setRow B _).heap[R]? =_
     rw[f3 R this,←hM];exact q5
   ·have rp:k<xs.length:=by omega
    rw[List.getElem_append_left rp]
    obtain⟨l8,v',p1,p2,p3,p4⟩:=k9 k rp
    refine⟨l8,v',?_,?_,p3.ext x,fun R' tB=>?_⟩
    ·simp only[D];rw[List.getElem?_append_left (by omega)];exact p1
    ·rw[wZ cH,av]
     rw[if_pos rp]
     exact p2
    ·subst tB
     obtain⟨oP,CV,p5,p6⟩:=p4 R' rfl
     refine⟨oP,CV,?_,p6⟩
     have:R'≠B:=Mr k5 p1 hB
     show(w.setRow B _).heap[R']? =_
     rw[f3 R' this,←hM];exact p5)
 exact⟨_,_,hr,rfl,rfl,rfl,rfl,rfl,this.1,this.2⟩
theorem Hj h {n}:∀{u},(u.any fun p=>Nat.beq p.1 n)=false→qC h u n=h n
 |[],_=>rfl
 |(id,o)::u,hu=>by
  simp only[List.any_cons,Bool.or_eq_false_iff] at hu
  have:n≠id:=fun e=>by simp_all
  show qC (qY h id o) u n=h n
  rw[Hj (qY h id o) hu.2,yH _ _ this]
theorem yTp {P M w}(ok:Ok M)(hM:M.H=w.heap){t a v r u ra rv}(ha:zN M a ra)(hv:zN M v rv)
  (h:yB (wy P M.h t a v) r u):r=.undef∧jl P (Instr.storeAt t ra rv) M w u:=by
 unfold wy at h
 split at h
 ·exact h.elim
 ·rename_i vs cB
  have cw:=Hf cB hv
  cases hb:(Nat.beq vs.length (P.cellsOf t)&&Nat.blt 0 vs.length) with
  |false=>rw[hb] at h;exact h.elim
  |true=>
   rw[hb] at h
   simp only[Bool.and_eq_true] at hb
   have hn:=Nat.eq_of_beq_eq_true hb.1
   have h0:=Mn hb.2
   split at h
   ·split at h
    ·rename_i cells ab
     split at h
     ·rename_i bo hp
      obtain⟨_,rfl,rfl⟩:=dV h
      obtain⟨C,B,hC,hB,rfl⟩:=ha
      have:=yN6 (P:=P) ok hM (t:=t) ab hC hB cw hn h0 hp
      simpa[Instr.storeAt,jl,gj] using this
     ·exact h.elim
    ·exact h.elim
   ·rename_i id i off
    split at h
    ·rename_i ty xs Mx u' ab xv
     split at h
     ·rename_i x hp
      cases hu:(u'.any fun p=>Nat.beq p.1 id) with
      |true=>rw[hu] at h;exact h.elim
      |false=>
      rw[hu] at h
      obtain⟨_,rfl,rfl⟩:=dV h
      refine⟨rfl,?_⟩
      obtain⟨M1,a1,a2,a3,a4,a5,a6,a7⟩:=Mm ok (wK.refl _) cw xv
      obtain⟨C,B,hC,hB,hi,hra⟩:=zR.ext (c:=.eptr id i off) a4.ext ha
      have l9:M1.h id=some (.arr true ty xs):=by rw[a2,Hj M.h hu];exact ab
      have xw:=a5.length
      have ng:=cw.length
      obtain⟨w',M',b1,b2,b3,b4,b5,b6,b7,b8⟩:=yRp (P:=P) a3 (a1.trans hM) (t:=t) l9 hC hB hi a5 (by omega) (by omega) hp
      subst hra
      exact⟨w',M',by simpa[Instr.storeAt,gj] using b1,b2,b3,b4,b5,by rw[b6,a2,gV],b7,a4.trans b8⟩
     ·exact h.elim
    ·exact h.elim
   ·split at h
    ·rename_i ver xs jd ab
     split at h
     ·rename_i ys cm
      obtain⟨_,rfl,rfl⟩:=dV h
      obtain⟨C,B,hC,hB,hi,rfl⟩:=ha
      have:=yYf (P:=P) ok hM (t:=t) ab hC hB hi cm hv (by cases cB;exact hn)
      simpa[Instr.storeAt,jl,gj] using this
     ·exact h.elim
    ·rename_i ver xs n jd ab
     split at h
     ·rename_i ys cm
      obtain⟨CU,rfl,rfl⟩:=dV h
      obtain⟨C,B,hC,hB,hi,rfl⟩:=ha
      have CU:=Nat.eq_of_beq_eq_true CU
      subst CU
      have:=vEr (P:=P) ok hM (t:=t) ab hC hB hi cm hv (by cases cB;exact hn)
      simpa[Instr.storeAt,jl,gj] using this
     ·exact h.elim
    ·exact h.elim
   ·rename_i id i j ver
    split at h
    ·rename_i v' xs n ab
     cases gm:Nat.beq v' ver with
     |false=>rw[gm] at h;exact h.elim
     |true=>
     rw[gm] at h
     have e:=Nat.eq_of_beq_eq_true gm
     subst e
     obtain⟨_,rfl,rfl⟩:=dV h
     obtain⟨C,hC,h1,hle,hm⟩:=ha
     obtain⟨C',au,hO⟩:=ok.obj _ _ ab
     rw[hC] at au;cases au
     obtain⟨R,rl,k1,k2,rfl⟩:=hm hO.1
     have ma:rv=.int .i64 n:=hv
     subst ma
     have:=yZ6 (P:=P) ok hM (t:=t) (n:=n) ab hC k1 k2 (by cases cB;exact hn)
     simpa[Instr.storeAt,jl,gj] using this
    ·exact h.elim
   ·exact h.elim
theorem dE {c s v u}(h:yB (bif c then s else .stuck) v u):c=true∧yB s v u:=by
 cases c with
 |true=>simp_all
 |false=>exact h.elim
theorem Hk {c s v u}(h:yB (bif c then .stuck else s) v u):c=false∧yB s v u:=by
 cases c with
 |false=>simp_all
 |true=>exact h.elim
theorem Hl {a b:Nat}(h:Nat.beq a b=false):a≠b:=fun e=>by simp_all
theorem xy {i n}(h:zD i n=true):0≤i∧i<n∧i.toNat<n:=by
 simp[zD] at h
 omega
theorem CX {i mk}:∀{n j v u},G9 (wv i mk j n) v u→∃k,j≤k∧k<j+n∧i=(k:Int)∧v=.c (mk k)∧u=[]
 |n+1,j,v,u,h=>by
  rcases h with⟨h1,h2,h3⟩|⟨_,h⟩
  ·grind
  ·obtain⟨k,k1,k2,k3⟩:=CX h
   grind
theorem vHm {P M w}(ok:Ok M)(hM:M.H=w.heap){s a v f u ra}(ha:zN M a ra)
  (h:yB (LM P s a f) v u):qD P (Instr.fieldAt s ra f) M w v u:=by
 unfold LM at h
 split at h
 ·rename_i fs hs
  split at h
  ·rename_i fd hf
   obtain⟨hz,h⟩:=Hk h
   have hz:=Hl hz
   obtain⟨i,hi⟩:=la (P:=P) (t:=fd.type) (by omega)
   have hr:∀B o,(Instr.fieldAt s (.pointer (some ⟨B,o,none⟩)) f).run P w=.ok (.pointer (some ⟨B,o+fd.offset,none⟩)) w:=by
    simp[Instr.fieldAt,run_underlying hs,hf,gj,fieldPlace,fg w hi,hz,Addr.add_lit]
   split at h
   ·obtain⟨rfl,rfl⟩:=vP h
    obtain⟨C,B,hC,hB,rfl⟩:=ha
    exact qD.pure ok hM (hr _ _) ⟨C,B,hC,hB,rfl⟩
   ·obtain⟨rfl,rfl⟩:=vP h
    obtain⟨C,B,hC,hB,hi,rfl⟩:=ha
    exact qD.pure ok hM (hr _ _) ⟨C,B,hC,hB,hi,by grind⟩
   ·obtain⟨rfl,rfl⟩:=vP h
    obtain⟨B,o,rfl,hB,hE⟩:=ha
    exact qD.pure ok hM (hr _ _) ⟨B,o,by grind,hB,hE⟩
   ·exact h.elim
  ·exact h.elim
 ·exact h.elim
theorem CY {P w t e A}{n c:Nat}{k}{i:Int}{B o}(hu:P.underlying t=some (.slice e))(h0:0≤i)(h1:i<n)(he:0<P.cellsOf e)
  (hA:A=some ⟨B,o,none⟩):(Instr.indexAt t (.slice A n c) (.int k i)).run P w=.ok (.pointer (some ⟨B,o+i.toNat*P.cellsOf e,none⟩)) w:=by
 obtain⟨x,hx⟩:=la he
 subst hA
 simp[Instr.indexAt,asIntOf,run_underlying hu,h0,h1,fg w hx,Addr.add_lit]
theorem vA9 {P M w}(ok:Ok M)(hM:M.H=w.heap){t x i v u rx ri}(hx:zN M x rx)(hi:zN M i ri)
  (h:yB (wz P M.h t x i) v u):qD P (Instr.indexAt t rx ri) M w v u:=by
 unfold wz at h
 split at h
 ·rename_i e c k n hu
  have ku:ri=.int k n:=hi
  subst ku
  split at h
  ·rename_i sh ty xs
   obtain⟨hz,h⟩:=dE h
   have hz:=Nat.eq_of_beq_eq_true hz
   obtain⟨hb,rfl,rfl⟩:=kq h
   obtain⟨b0,b1,b2⟩:=xy hb
   have oQ:zV M.H (bif sh then M.G else M.F) (.sl ty) xs (fun _=>some rx):=hx
   simp only[zV,Option.some.injEq] at oQ
   obtain⟨A,m,c,rfl,rfl,hc,oQ⟩:=oQ
   rcases oQ with⟨rfl,_⟩|⟨B,o,rfl,hB,hE⟩
   ·simp at b2
   ·refine qD.pure ok hM (CY hu b0 b1 (by rw[hz];exact ty.size_pos) rfl) ⟨B,o+n.toNat*P.cellsOf e,rfl,hB,?_⟩
    have e1:xs.getD n.toNat ty.dflt=xs[n.toNat]:=by simp[List.getD,b2]
    rw[e1,hz]
    exact hE _ b2
  ·rename_i id r
   split at h
   ·rename_i own ty xs ab
    obtain⟨hz,h⟩:=dE h
    have hz:=Nat.eq_of_beq_eq_true hz
    obtain⟨C,hC,hS⟩:=hx
    obtain⟨C',au,hO⟩:=ok.obj _ _ ab
    rw[hC] at au;cases au
    have hlen:=hO.1
    have cN:=hO.2.1
    have key:∀lo m,lo+m≤C.len→wL M.H C lo m rx→0≤n→n<(m:Int)→∃B,C.blk=some B∧(Instr.indexAt t rx (.int k n)).run P w=.ok (.pointer (some ⟨B,(lo+n.toNat)*C.sz+0,none⟩)) w:=by
     intro lo m hm oR n0 n1
     clear hS
     obtain⟨A,c,rfl,hS⟩:=oR
     cases hB:C.blk with
     |none=>rw[hB] at hS;obtain⟨_,rfl,_⟩:=hS;omega
     |some B=>
      rw[hB] at hS
      obtain⟨hc,a,hA,ha,_⟩:=hS
      refine⟨B,rfl,?_⟩
      rw[CY hu n0 n1 (by rw[hz];exact ty.size_pos) hA]
      have:a=lo*C.sz:=by rcases ha with ha|ha<;>omega
      rw[this,hz,cN,Nat.add_mul];rfl
    split at h
    ·obtain⟨hb,rfl,rfl⟩:=kq h
     obtain⟨b0,b1,b2⟩:=xy hb
     obtain⟨B,hB,hr⟩:=key 0 C.len (by omega) hS b0 (by omega)
     rw[Nat.zero_add] at hr
     exact qD.pure ok hM hr ⟨C,B,hC,hB,by omega,rfl⟩
    ·obtain⟨hb,rfl,rfl⟩:=kq h
     obtain⟨b0,b1,b2⟩:=xy hb
     obtain⟨B,hB,hr⟩:=key _ _ hS.1 hS.2.1 b0 b1
     exact qD.pure ok hM hr ⟨C,B,hC,hB,by have:=hS.1;omega,rfl⟩
   ·rename_i ver xs ab
    obtain⟨hz,h⟩:=dE h
    have hz:=Nat.eq_of_beq_eq_true hz
    split at h
    ·obtain⟨hb,rfl,rfl⟩:=kq h
     obtain⟨b0,b1,b2⟩:=xy hb
     obtain⟨C,hC,hS⟩:=hx
     obtain⟨C',au,hO⟩:=ok.obj _ _ ab
     rw[hC] at au;cases au
     have hlen:=hO.2.1
     obtain⟨A,c,rfl,hS⟩:=hS
     cases hB:C.blk with
     |none=>rw[hB] at hS;obtain⟨_,h0,_⟩:=hS;omega
     |some B=>
      rw[hB] at hS
      obtain⟨hc,a,hA,ha,_⟩:=hS
      have:a=0:=by rcases ha with ha|ha<;>omega
      have hr:=CY (P:=P) (w:=w) (c:=c) (k:=k) hu b0 (show n<(C.len:Int) by omega) (by omega) hA
      rw[this,hz,Nat.zero_add,Nat.mul_one] at hr
      exact qD.pure ok hM hr ⟨C,B,hC,hB,by omega,rfl⟩
    ·exact h.elim
   ·rename_i ver xs m ab
    obtain⟨hz,h⟩:=dE h
    have hz:=Nat.eq_of_beq_eq_true hz
    split at h
    ·obtain⟨hb,rfl,rfl⟩:=kq h
     obtain⟨b0,b1,b2⟩:=xy hb
     obtain⟨C,hC,hS⟩:=hx
     obtain⟨C',au,hO⟩:=ok.obj _ _ ab
     rw[hC] at au;cases au
     have hlen:=hO.2.1
     obtain⟨A,c,rfl,hS⟩:=hS
     cases hB:C.blk with
     |none=>rw[hB] at hS;obtain⟨_,h0,_⟩:=hS;omega
     |some B=>
      rw[hB] at hS
      obtain⟨hc,a,hA,ha,_⟩:=hS
      have:a=0:=by rcases ha with ha|ha<;>omega
      have hr:=CY (P:=P) (w:=w) (c:=c) (k:=k) hu b0 (show n<(C.len:Int) by omega) (by omega) hA
      rw[this,hz,Nat.zero_add,Nat.mul_one] at hr
      exact qD.pure ok hM hr ⟨C,B,hC,hB,by omega,rfl⟩
    ·exact h.elim
   ·exact h.elim
  ·rename_i id j ver
   obtain⟨hz,h⟩:=dE h
   have hz:=Nat.eq_of_beq_eq_true hz
   split at h
   ·rename_i v' xs ab
    obtain⟨hv,h⟩:=dE h
    have hv:=Nat.eq_of_beq_eq_true hv
    subst hv
    obtain⟨hb,rfl,rfl⟩:=kq h
    obtain⟨b0,b1,b2⟩:=xy hb
    obtain⟨C,hC,h1,hle,hm⟩:=hx
    obtain⟨C',au,hO⟩:=ok.obj _ _ ab
    rw[hC] at au;cases au
    obtain⟨rb,rl,k1,k2⟩:=hm hO.1
    have hj:j<xs.length:=by
     rw[←hO.2.2.2.1]
     rcases Nat.lt_or_ge j C.rows.length with h|h
     ·exact h
     ·rw[List.getElem?_eq_none h] at k1;cases k1
    obtain⟨B,l8,x',q0,qv,q1,q2,q3,q4⟩:=xo hO hj
    rw[k1] at q1
    cases q1
    have e1:xs.getD j []=xs[j]:=by simp[List.getD,hj]
    rw[e1] at b1 b2
    cases rb with
    |none=>obtain⟨_,h0⟩:=k2;omega
    |some R=>
     obtain⟨a,c,rfl,hc,ha,_⟩:=k2
     have:a=0:=by rcases ha with ha|ha<;>omega
     subst this
     have hr:=CY (P:=P) (w:=w) (c:=c) (k:=k) (A:=some ⟨R,0,none⟩) hu b0 b1 (by omega) rfl
     rw[hz,Nat.zero_add,Nat.mul_one] at hr
     exact qD.pure ok hM hr ⟨C,hC,rfl,hle,by grind⟩
   ·exact h.elim
  ·exact h.elim
 ·rename_i m e id off k n hu
  have ku:ri=.int k n:=hi
  subst ku
  obtain⟨hz,h⟩:=Hk h
  have hz:=Hl hz
  obtain⟨j,j1,j2,rfl,rfl,rfl⟩:=CX h
  obtain⟨C,B,hC,hB,rfl⟩:=hx
  obtain⟨y,hy⟩:=la (P:=P) (t:=e) (by omega)
  refine qD.pure ok hM (rv:=.pointer (some ⟨B,off+j*P.cellsOf e,none⟩)) ?_ ⟨C,B,hC,hB,rfl⟩
  have:(j:Int)<m:=by omega
  have h':¬m≤j:=by omega
  simp[Instr.indexAt,asIntOf,run_underlying hu,gj,this,h',fg w hy,Addr.add_lit]
 ·rename_i m e id q off k n hu
  have ku:ri=.int k n:=hi
  subst ku
  obtain⟨hz,h⟩:=Hk h
  have hz:=Hl hz
  obtain⟨j,j1,j2,rfl,rfl,rfl⟩:=CX h
  obtain⟨C,B,hC,hB,hq,rfl⟩:=hx
  obtain⟨y,hy⟩:=la (P:=P) (t:=e) (by omega)
  refine qD.pure ok hM (rv:=.pointer (some ⟨B,_+j*P.cellsOf e,none⟩)) ?_ ⟨C,B,hC,hB,hq,by rw[Nat.add_assoc]⟩
  have:(j:Int)<m:=by omega
  have h':¬m≤j:=by omega
  simp[Instr.indexAt,asIntOf,run_underlying hu,gj,this,h',fg w hy,Addr.add_lit]
 ·rename_i m e sh t x off k n hu
  have ku:ri=.int k n:=hi
  subst ku
  obtain⟨hz,h⟩:=Hk h
  have hz:=Hl hz
  obtain⟨j,j1,j2,rfl,rfl,rfl⟩:=CX h
  obtain⟨B,o,rfl,hB,hE⟩:=hx
  obtain⟨y,hy⟩:=la (P:=P) (t:=e) (by omega)
  refine qD.pure ok hM (rv:=.pointer (some ⟨B,_+j*P.cellsOf e,none⟩)) ?_ ⟨B,o,by rw[Nat.add_assoc],hB,hE⟩
  have:(j:Int)<m:=by omega
  have h':¬m≤j:=by omega
  simp[Instr.indexAt,asIntOf,run_underlying hu,gj,this,h',fg w hy,Addr.add_lit]
 ·exact h.elim
theorem W2 {M cs}{us:Array Value}{off n vs}(h:zJ (zR M) cs us.toList)(hc:ja cs off n=some vs):zJ (zR M) vs (us.extract off (off+n)).toList:=by
 obtain⟨h1,rfl,h2⟩:=CR hc
 have:=(h.drop off).take n
 simp_all
theorem W3 {P M w t cs us off vs v}(h:zJ (zR M) cs us.toList)
  (hc:ja cs off (P.cellsOf t)=some vs) (hp:mU (jE P t) vs=some v):∃rv,(part t us off).run P w=.ok rv w∧zN M v rv:=by
 have aV:=W2 h hc
 obtain⟨h1,h2,h3⟩:=CR hc
 have hl:=h.length
 rcases Mb hp with⟨cP,rfl⟩|⟨cP,c,rfl,rfl⟩
 ·obtain⟨⟨d,hd⟩,hr⟩:=oM (P:=P) w cP
  obtain⟨i,hi⟩:=Ha hd
  exact⟨.agg (us.extract off (off+P.cellsOf t)),by simp[part,hr,fg w hi],_,rfl,aV⟩
 ·obtain⟨⟨d,hd⟩,hr⟩:=oM (P:=P) w cP
  simp  at h3
  have aS:off<us.size:=by grind
  have My:off<cs.length:=by omega
  refine⟨us[off],by simp[part,hr,aS],?_⟩
  have e:cs[off]=c:=by
   have:=congrArg (·[0]?) h2
   grind
  have:=h.get off My (by omega)
  show zR M c us[off]
  simp_all
theorem vIe {P M w}(ok:Ok M)(hM:M.H=w.heap){s x v f u rx}(hx:zN M x rx)
  (h:yB (LO P s x f) v u):qD P (Instr.field s rx f) M w v u:=by
 unfold LO at h
 split at h
 ·rename_i fs cs hs
  split at h
  ·rename_i fd hf
   split at h
   ·rename_i vs hc
    obtain⟨h',rfl⟩:=L8 h
    obtain⟨us,rfl,lf⟩:=hx
    obtain⟨rv,hr,hv⟩:=W3 (P:=P) (w:=w) lf hc h'
    exact qD.pure ok hM (by simp[Instr.field,run_underlying hs,hf,asAgg,hr]) hv
   ·exact h.elim
  ·exact h.elim
 ·exact h.elim
theorem yX6 {P M w}(ok:Ok M)(hM:M.H=w.heap){t x i v u rx ri}(hx:zN M x rx)(hi:zN M i ri)
  (h:yB (LN P t x i) v u):qD P (Instr.index t rx ri) M w v u:=by
 unfold LN at h
 split at h
 ·rename_i m e cs k n hu
  have ku:ri=.int k n:=hi
  subst ku
  obtain⟨hc,h⟩:=dE h
  simp only[Bool.and_eq_true] at hc
  obtain⟨⟨c1,c2⟩,c3⟩:=hc
  have c1:=Nat.eq_of_beq_eq_true c1
  have c3:=Nat.eq_of_beq_eq_true c3
  obtain⟨j,j1,j2,rfl,rfl,rfl⟩:=CX h
  obtain⟨us,rfl,lf⟩:=hx
  have cP:jE P e=some false:=by
   grind
  have hj:j<cs.length:=by omega
  have de:ja cs j (P.cellsOf e)=some [cs[j]]:=by
   unfold ja
   have:Nat.ble (j+P.cellsOf e) cs.length=true:=Nat.ble_eq_true_of_le (by omega)
   rw[this,c1]
   simp[List.take_one]
  obtain⟨rv,hr,hv⟩:=W3 (P:=P) (w:=w) lf de (v:=.c cs[j]) (by rw[cP];rfl)
  obtain⟨y,hy⟩:=la (P:=P) (t:=e) (by omega)
  have hjm:(j:Int)<m:=by omega
  refine qD.pure ok hM (rv:=rv) ?_ ?_
  ·have h':¬m≤j:=by omega
   simp[Instr.index,asIntOf,run_underlying hu,h',fg w hy,c1,hr]
  simp_all
 ·exact h.elim
theorem Mz a b:kh a b=(a==b):=by cases a<;>cases b<;>rfl
theorem yXb {P M w}(ok:Ok M)(hM:M.H=w.heap){op k x y xt v u}(hs:op≠.shl∧op≠.shr)
  (h:yB (Wu op k x y) v u):qD P (binOp op xt (.int k x) (.int k y)) M w v u:=by
 cases op with
 |shl=>simp_all
 |shr=>simp_all
 |quo=>
  obtain⟨h1,rfl,rfl⟩:=kq h
  simp  at h1
  exact qD.pure ok hM (rv:=.int k (k.wrap (x.tdiv y))) (by simp[binOp,Op.intDiv,h1]) rfl
 |rem=>
  obtain⟨h1,rfl,rfl⟩:=kq h
  simp[Bool.not_eq_true'] at h1
  exact qD.pure ok hM (rv:=.int k (x.tmod y)) (by simp[binOp,Op.intDiv,h1]) rfl
 |neq=>
  obtain⟨rfl,rfl⟩:=vP h
  exact qD.pure ok hM (rv:=.bool (!decide (x=y))) (by simp[binOp,Op.intCmp,bne,BEq.beq]) rfl
 |eql=>
  obtain⟨rfl,rfl⟩:=vP h
  exact qD.pure ok hM (rv:=.bool (decide (x=y))) (by simp[binOp,Op.intCmp,BEq.beq]) rfl
 |_=>
  obtain⟨rfl,rfl⟩:=vP h
  exact qD.pure ok hM (rv:=_) (by simp[binOp];rfl) rfl
theorem W4 {P M w}(ok:Ok M)(hM:M.H=w.heap){op k j x y xt v u}(hs:op=.shl∨op=.shr)
  (h:yB (Wv op k x y) v u):qD P (binOp op xt (.int k x) (.int j y)) M w v u:=by
 rcases hs with rfl|rfl
 ·obtain⟨h1,rfl,rfl⟩:=kq h
  simp only[Bool.not_eq_true',decide_eq_false_iff_not] at h1
  exact qD.pure ok hM (rv:=.int k (k.wrap (x*2^(min y.toNat k.bits)))) (by simp only[binOp,Op.shift,h1,if_false];rfl) rfl
 ·obtain⟨h1,rfl,rfl⟩:=kq h
  simp only[Bool.not_eq_true',decide_eq_false_iff_not] at h1
  exact qD.pure ok hM (rv:=.int k (x.fdiv (2^(min y.toNat k.bits)))) (by simp only[binOp,Op.shift,h1];rfl) rfl
def CZ (P:Program)(eqT:TypeId→Bool):Prop:=∀t,eqT t=true→∀(M:zH) (xs ys:List zS) (us vs:Array Value) (r:Bool) (w:World),GN P t xs ys=some r→
 zJ (zR M) xs us.toList→zJ (zR M) ys vs.toList→P.eqGuardType P.depth t=false∧(Op.equal t (.agg us) (.agg vs)).run P w=.ok r w
def tE:zS→zS→Option Bool
 |.int j a,.int k b=>bif dB j k then some (decide (a=b)) else none
 |.bool a,.bool b=>some (kh a b)
 |_,_=>none
theorem vD4 {x y xs ys r}(h:dC (x::xs) (y::ys)=some r):∃b r',tE x y=some b∧dC xs ys=some r'∧r=(b&&r'):=by
 have C3:(match tE x y,dC xs ys with|some b,some r'=>some (b&&r')|_,_=>none)=some r→∃b r',tE x y=some b∧dC xs ys=some r'∧r=(b&&r'):=by
  grind
 apply C3
 rw[←h]
 match x,y with
 |.int j a,.int k b=>
  cases hk:dB j k<;>cases xs<;>cases ys<;>simp only[dC,tE,hk,cond_true]<;>first|grind|rfl
 |.bool a,.bool b=>
  cases xs<;>cases ys<;>simp only[dC,tE]<;>first|grind|rfl
 |.int _ _,.str _|.int _ _,.undef|.int _ _,.bool _|.int _ _,.fsl _ _ _|.int _ _,.nfl _ _ _|.int _ _,.nsl|.int _ _,.osl _ _|.int _ _,.bsl _ _ _|.int _ _,.ptr _ _|.int _ _,.eptr _ _ _|.int _ _,.fptr _ _ _ _|.int _ _,.mrow _ _ _|.int _ _,.mptr _ _|.int _ _,.meptr _ _ _ _|.int _ _,.nilp|.int _ _,.nilf|.int _ _,.nilm|.int _ _,.fn _ _|.int _ _,.map _
 |.bool _,.str _|.bool _,.undef|.bool _,.int _ _|.bool _,.fsl _ _ _|.bool _,.nfl _ _ _|.bool _,.nsl|.bool _,.osl _ _|.bool _,.bsl _ _ _|.bool _,.ptr _ _|.bool _,.eptr _ _ _|.bool _,.fptr _ _ _ _|.bool _,.mrow _ _ _|.bool _,.mptr _ _|.bool _,.meptr _ _ _ _|.bool _,.nilp|.bool _,.nilf|.bool _,.nilm|.bool _,.fn _ _|.bool _,.map _=>cases xs<;>cases ys<;>cases h
def MA (b:Bool)(us:List Value):Value:=bif b then .agg us.toArray else us.getD 0 (.bool false)
theorem xz {P:Program}:∀{a r xs},dU (a++r) xs=true→dU a (xs.take a.length)=true∧dU r (xs.drop a.length)=true∧(xs.take a.length).length=a.length
 |[],r,xs,h=>⟨rfl,h,rfl⟩
 |k::a,r,xs,h=>by
  match k,xs,h with
  |some k,.int j n::xs,h=>
   have h':(dB j k&&dU (a++r) xs)=true:=h
   rw[Bool.and_eq_true] at h'
   obtain⟨h1,h2,h3⟩:=xz (P:=P) h'.2
   refine⟨?_,h2,by simp[h3]⟩
   show(dB j k&&dU a (xs.take a.length))=true
   simp_all
  |none,.bool b::xs,h=>
   have h':dU (a++r) xs=true:=h
   obtain⟨h1,h2,h3⟩:=xz (P:=P) h'
   exact⟨h1,h2,by simp[h3]⟩
theorem MB:∀{a b c d r},a.length=b.length→dC (a++c) (b++d)=some r→∃r1 r2,dC a b=some r1∧dC c d=some r2∧r=(r1&&r2)
 |[],[],c,d,r,_,h=>⟨true,r,rfl,h,rfl⟩
 |x::a,y::b,c,d,r,hl,h=>by
  obtain⟨e,r',h1,h2,rfl⟩:=vD4 h
  obtain⟨r1,r2,h3,h4,rfl⟩:=MB (by simp_all) h2
  refine⟨e&&r1,r2,?_,h4,by grind⟩
  have mk:∀{x y:zS} {xs ys:List zS} {b r':Bool},tE x y=some b→dC xs ys=some r'→xs.length=ys.length→dC (x::xs) (y::ys)=some (b&&r'):=by
   intro x y xs ys b r' h1 h2 hl
   cases x<;>cases y<;>first|(cases h1;done)|skip
   ·rename_i j m k n
    simp[tE] at h1
    cases hk:dB j k with
    |false=>simp_all
    |true=>
     rw[hk] at h1
     cases h1
     cases xs<;>cases ys
     ·cases h2;simp[dC,hk]
     ·cases hl
     ·cases hl
     ·simp[dC,hk,h2]
   ·cases h1
    cases xs<;>cases ys
    ·cases h2;simp[dC]
    ·cases hl
    ·cases hl
    ·simp[dC,h2]
  grind
def MC (P:Program)(dd:Nat)(t:TypeId)(ks:List (Option IntKind)):Prop:=∃b,jE P t=some b∧(b=false→ks.length=1)∧∀(M:zH) (w:World) (us vs:List Value) (xs ys:List zS) (r:Bool),
 dU ks xs=true→dU ks ys=true→dC xs ys=some r→zJ (zR M) xs us→zJ (zR M) ys vs→(Op.equalIn dd t (MA b us) (MA b vs)).run P w=.ok r w
theorem nh:∀{ks xs},dU ks xs=true→xs.length=ks.length
 |[],[],_=>rfl
 |some k::ks,.int j n::xs,h=>by
  have h':(dB j k&&dU ks xs)=true:=h
  rw[Bool.and_eq_true] at h'
  simp[nh h'.2]
 |none::ks,.bool b::xs,h=>by
  have h':dU ks xs=true:=h
  simp[nh h']
theorem Hm {P t b}(ht:jE P t=some b){us off w}(hn:off+P.cellsOf t≤us.size)(h1:b=false→P.cellsOf t=1)(h0:∃i,P.info? t=some i):
  (part t us off).run P w=.ok (MA b ((us.toList.drop off).take (P.cellsOf t))) w:=by
 obtain⟨⟨d,hd⟩,hr⟩:=oM (P:=P) w ht
 cases b with
 |true=>
  obtain⟨i,hi⟩:=h0
  simp[part,hr,fg w hi]
  congr 2
  grind
 |false=>
  have h1:=h1 rfl
  have aS:off<us.size:=by omega
  have e:us[off]? =some us[off]:=by simp
  have e2:(us.toList.drop off).take 1=[us[off]]:=by
   rw[List.drop_eq_getElem_cons (by omega)]
   simp
  simp[part,hr,e,h1,e2]
  rfl
theorem W5 {P dd M w us vs rec}:∀fs i ks xs ys r,(∀f∈fs,∀a,rec f.type=some a→MC P dd f.type a)→
  GM P rec i fs=some ks→dU ks xs=true→dU ks ys=true→dC xs ys=some r→zJ (zR M) xs (us.toList.drop i)→zJ (zR M) ys (vs.toList.drop i)→(Op.eqFields dd us vs fs).run P w=.ok r w
 |[],i,ks,xs,ys,r,_,hk,hx,hy,he,hu,hv=>by
  cases hk
  cases xs with
  |cons _ _=>cases hx
  |nil=>cases ys with
   |cons _ _=>cases hy
   |nil=>cases he;rfl
 |f::fs,i,ks,xs,ys,r,aV,hk,hx,hy,he,hu,hv=>by
  unfold GM at hk
  cases hc:(Nat.beq f.offset i&& !(f.name== "_")) with
  |false=>rw[hc] at hk;cases hk
  |true=>
   rw[hc] at hk
   rw[Bool.and_eq_true] at hc
   have ho:f.offset=i:=by simpa using hc.1
   have hn:f.name≠ "_" :=by simpa using hc.2
   dsimp only[cond_true] at hk
   split at hk
   ·rename_i a r0 ha xA
    cases hl:(Nat.beq a.length (P.cellsOf f.type)&&Nat.blt 0 a.length) with
    |false=>rw[hl] at hk;cases hk
    |true=>
     rw[hl] at hk
     cases hk
     rw[Bool.and_eq_true] at hl
     have Hn:0<a.length:=by have:=hl.2;simp[Nat.blt] at this;omega
     have hl:=Nat.eq_of_beq_eq_true hl.1
     obtain⟨b,hb,dF,hE⟩:=aV f (List.mem_cons_self ..) a ha
     obtain⟨x1,x2,x3⟩:=xz (P:=P) hx
     obtain⟨y1,y2,y3⟩:=xz (P:=P) hy
     have ex:xs=xs.take a.length++xs.drop a.length:=(List.take_append_drop _ _).symm
     have ey:ys=ys.take a.length++ys.drop a.length:=(List.take_append_drop _ _).symm
     rw[ex,ey] at he
     obtain⟨r1,r2,e1,e2,rfl⟩:=MB (by rw[x3,y3]) he
     have xB:=hu.length
     have MD:=hv.length
     have ni:=nh hx
     have tF:=nh hy
     rw[List.length_append] at ni tF
     have tG:=hu.take a.length
     have kx:=hv.take a.length
     have tH:=hu.drop a.length
     have ma:=hv.drop a.length
     rw[List.drop_drop] at tH ma
     have h0:∃i,P.info? f.type=some i:=by
      obtain⟨⟨d,hd⟩,_⟩:=oM (P:=P) w hb
      exact Ha hd
     have step:=hE M w _ _ _ _ r1 x1 y1 e1 tG kx
     rw[hl] at tH ma
     have ih:=W5 (w:=w) fs (i+P.cellsOf f.type) r0 _ _ r2 (fun g hg=>aV g (List.mem_cons_of_mem _ hg)) xA x2 y2 e2 (by rw[hl];exact tH) (by rw[hl];exact ma)
     have bu:i+P.cellsOf f.type≤us.size:=by simp at xB;omega
     have bv:i+P.cellsOf f.type≤vs.size:=by simp at MD;omega
     have p1:=Hm (w:=w) hb bu (by grind) h0
     have p2:=Hm (w:=w) hb bv (fun e=>by have:=dF e;omega) h0
     rw[hl] at step
     unfold Op.eqFields
     rw[if_pos hn,ho]
     simp only[Sem.run_bind,p1,p2,Result.andThen_ok,step]
     cases r1 with
     |true=>grind
     |false=>simp
   ·cases hk
theorem W6 {P dd M w us vs e a}(hE:MC P dd e a)(hl:a.length=P.cellsOf e)(Hn:0<a.length):∀c j xs ys r,
  dU (tm c a) xs=true→dU (tm c a) ys=true→dC xs ys=some r→zJ (zR M) xs (us.toList.drop (j*P.cellsOf e))→zJ (zR M) ys (vs.toList.drop (j*P.cellsOf e))→(Op.eqItems dd e (P.cellsOf e) us vs (List.range' j c)).run P w=.ok r w
 |0,j,xs,ys,r,hx,hy,he,hu,hv=>by
  cases xs with
  |cons _ _=>cases hx
  |nil=>cases ys with
   |cons _ _=>cases hy
   |nil=>cases he;rfl
 |c+1,j,xs,ys,r,hx,hy,he,hu,hv=>by
  obtain⟨b,hb,dF,Hh⟩:=id hE
  obtain⟨x1,x2,x3⟩:=xz (P:=P) hx
  obtain⟨y1,y2,y3⟩:=xz (P:=P) hy
  have ex:xs=xs.take a.length++xs.drop a.length:=(List.take_append_drop _ _).symm
  have ey:ys=ys.take a.length++ys.drop a.length:=(List.take_append_drop _ _).symm
  rw[ex,ey] at he
  obtain⟨r1,r2,e1,e2,rfl⟩:=MB (by rw[x3,y3]) he
  have xB:=hu.length
  have MD:=hv.length
  have ni:=nh hx
  have tF:=nh hy
  have xC:(tm (c+1) a).length=a.length+(tm c a).length:=by show(a++tm c a).length=_;rw[List.length_append]
  rw[xC] at ni tF
  have tG:=hu.take a.length
  have kx:=hv.take a.length
  have tH:=hu.drop a.length
  have ma:=hv.drop a.length
  rw[List.drop_drop] at tH ma
  have h0:∃i,P.info? e=some i:=by
   obtain⟨⟨d,hd⟩,_⟩:=oM (P:=P) w hb
   exact Ha hd
  have step:=Hh M w _ _ _ _ r1 x1 y1 e1 tG kx
  have ej:j*P.cellsOf e+a.length=(j+1)*P.cellsOf e:=by rw[Nat.add_mul];omega
  rw[ej] at tH ma
  have ih:=W6 (w:=w) hE hl Hn c (j+1) _ _ r2 x2 y2 e2 tH ma
  have bu:j*P.cellsOf e+P.cellsOf e≤us.size:=by simp at xB;omega
  have bv:j*P.cellsOf e+P.cellsOf e≤vs.size:=by simp at MD;omega
  have p1:=Hm (w:=w) hb bu (by grind) h0
  have p2:=Hm (w:=w) hb bv (fun e=>by have:=dF e;omega) h0
  rw[hl] at step
  rw[show List.range' j (c+1)=j::List.range' (j+1) c from rfl]
  simp only[Op.eqItems,Sem.run_bind,p1,p2,Result.andThen_ok,step]
  cases r1 with
  |true=>grind
  |false=>simp
theorem ME {P} d:∀m t ks,P.keyTypeAt m t=true→wo P m t=some ks→MC P (d+m) t ks
 |0,_,_,h,_=>by simp[Program.keyTypeAt] at h
 |m+1,t,ks,hk,h=>by
  unfold Program.keyTypeAt at hk
  unfold wo at h
  split at h
  ·rename_i k hu
   cases h
   refine⟨false,by unfold jE;rw[hu],fun _=>rfl,fun M w us vs xs ys r hx hy he nj gm=>?_⟩
   have ni:=nh hx
   have tF:=nh hy
   match xs,ys,us,vs,hx,hy,nj,gm,ni,tF with
   |[.int j a],[.int j' c],[u],[v],hx,hy,⟨tG,_⟩,⟨kx,_⟩,_,_=>
    have e1:u=.int j a:=tG
    have e2:v=.int j' c:=kx
    subst e1;subst e2
    simp only[dC] at he
    cases hk:dB j j' with
    |false=>rw[hk] at he;cases he
    |true=>
     rw[hk] at he
     cases he
     rw[←oC hk]
     exact run_equalIn_int (P:=P) w (d+m) t j k a c hu
  ·rename_i hu
   cases h
   refine⟨false,by unfold jE;rw[hu],fun _=>rfl,fun M w us vs xs ys r hx hy he nj gm=>?_⟩
   have ni:=nh hx
   have tF:=nh hy
   match xs,ys,us,vs,hx,hy,nj,gm,ni,tF with
   |[.bool a],[.bool c],[u],[v],hx,hy,⟨tG,_⟩,⟨kx,_⟩,_,_=>
    have e1:u=.bool a:=tG
    have e2:v=.bool c:=kx
    subst e1;subst e2
    cases he
    show(Op.equalIn (d+m+1) t (.bool a) (.bool c)).run P w=_
    rw[run_equalIn_bool' (P:=P) w (d+m) t a c hu,Mz]
  ·rename_i fs hu
   simp only[hu,Bool.and_eq_true,Bool.not_eq_true'] at hk
   refine⟨true,by unfold jE;rw[hu],by simp,fun M w us vs xs ys r hx hy he nj gm=>?_⟩
   have hf:P.fieldsOf t=fs:=by unfold Program.fieldsOf;rw[hu]
   have:=run_equalIn_struct (P:=P) w (d+m) t us.toArray vs.toArray (by rw[hf];exact hu) hk.2
   rw[hf] at this
   refine this.trans (W5 (rec:=wo P m) _ 0 ks xs ys r (fun f hf a ha=>?_) h hx hy he (by simpa using nj) (by simpa using gm))
   have W7:=Array.all_eq_true_iff_forall_mem.1 hk.1.1 f (by grind)
   simp only[Bool.and_eq_true,bne_iff_ne,ne_eq] at W7
   exact ME d m f.type a W7.2 ha
  ·rename_i n e hu
   simp only[hu] at hk
   split at h
   ·rename_i a ha
    cases hl:(Nat.beq a.length (P.cellsOf e)&&Nat.blt 0 a.length) with
    |false=>rw[hl] at h;cases h
    |true=>
     rw[hl] at h
     cases h
     rw[Bool.and_eq_true] at hl
     have Hn:0<a.length:=by have:=hl.2;simp[Nat.blt] at this;omega
     have hl:=Nat.eq_of_beq_eq_true hl.1
     refine⟨true,by unfold jE;rw[hu],(by simp),fun M w us vs xs ys r hx hy he nj gm=>?_⟩
     obtain⟨i,hi⟩:=la (P:=P) (t:=e) (by omega)
     have:=run_equalIn_array (P:=P) w (d+m) us.toArray vs.toArray hu hi
     refine this.trans ?_
     rw[List.range_eq_range']
     exact W6 (ME d m e a hk ha) hl Hn n 0 xs ys r hx hy he (by simpa using nj) (by simpa using gm)
   ·cases h
  ·cases h
theorem W8 {P eqT}(h:∀t,eqT t=true→(P.keyTypeAt 8 t&& !P.eqGuardType P.depth t)=true):CZ P eqT:=by
 intro t ht M xs ys us vs r w he hu hv
 have h:=h t ht
 simp  at h
 refine⟨h.2,?_⟩
 unfold GN at he
 split at he
 ·rename_i ks hk
  unfold Ww at hk
  split at hk
  ·cases hc:(dU ks xs&&dU ks ys) with
   |false=>simp_all
   |true=>
    rw[hc] at he
    rw[Bool.and_eq_true] at hc
    obtain⟨b,hb,_,hE⟩:=ME (P:=P) 9992 8 t ks h.1 hk
    have:b=true:=by
     unfold jE at hb
     simp_all
    subst this
    exact hE M w us.toList vs.toList xs ys r hc.1 hc.2 he hu hv
  ·cases hk
 ·cases he
theorem W9 {P t}(h:GO P t=true):P.underlying t=some .bool:=by
 unfold GO at h
 grind
theorem vI3 {P eqT}(heq:CZ P eqT){M w}(ok:Ok M)(hM:M.H=w.heap){op xt ox oy x y v u rx ry}
  (hx:zN M x rx) (hy:zN M y ry) (h:yB (LK P eqT op xt ox oy x y) v u):qD P (do eqGuard op xt ox oy rx ry;binOp op xt rx ry) M w v u:=by
 have quiet:∀{k j:IntKind} {a b:Int},(eqGuard op xt ox oy (.int k a) (.int j b)).run P w=.ok () w:=by
  unfold eqGuard
  simp
 have step:∀{a b:Value},(eqGuard op xt ox oy a b).run P w=.ok () w→qD P (binOp op xt a b) M w v u→qD P (do eqGuard op xt ox oy a b;binOp op xt a b) M w v u:=by
  rintro a b hg ⟨rv,w',M',h1,h2⟩
  exact⟨rv,w',M',by simp_all,h2⟩
 unfold LK at h
 split at h
 ·have e1:rx=_:=hx
  have e2:ry=_:=hy
  subst e1;subst e2
  exact step quiet (W4 ok hM (.inl rfl) h)
 ·have e1:rx=_:=hx
  have e2:ry=_:=hy
  subst e1;subst e2
  exact step quiet (W4 ok hM (.inr rfl) h)
 ·obtain⟨hk,h2⟩:=dE h
  have hk:=oC hk
  subst hk
  have e1:rx=_:=hx
  have e2:ry=_:=hy
  subst e1;subst e2
  exact step quiet (yXb ok hM (by grind) h2)
 ·rename_i a b
  have e1:rx=_:=hx
  have e2:ry=_:=hy
  subst e1;subst e2
  obtain⟨hb,h2⟩:=dE h
  obtain⟨rfl,rfl⟩:=vP h2
  have hr:=run_equalIn_bool' (P:=P) w 9999 xt a b (W9 hb)
  refine qD.pure ok hM (rv:=.bool (kh a b)) ?_ rfl
  have nk:(Op.equal xt (.bool a) (.bool b)).run P w=.ok (a==b) w:=hr
  have hg:(eqGuard .eql xt ox oy (.bool a) (.bool b)).run P w=.ok () w:=by rfl
  simp only[Sem.run_bind,hg,Result.andThen_ok,binOp,nk,Sem.run_pure,Mz]
 ·rename_i a b
  have e1:rx=_:=hx
  have e2:ry=_:=hy
  subst e1;subst e2
  obtain⟨hb,h2⟩:=dE h
  obtain⟨rfl,rfl⟩:=vP h2
  have hr:=run_equalIn_bool' (P:=P) w 9999 xt a b (W9 hb)
  refine qD.pure ok hM (rv:=.bool (!kh a b)) ?_ rfl
  have nk:(Op.equal xt (.bool a) (.bool b)).run P w=.ok (a==b) w:=hr
  have hg:(eqGuard .neq xt ox oy (.bool a) (.bool b)).run P w=.ok () w:=by rfl
  simp only[Sem.run_bind,hg,Result.andThen_ok,binOp,nk,Sem.run_pure,Mz]
 ·rename_i a b
  have e1:rx=_:=hx
  have e2:ry=_:=hy
  subst e1;subst e2
  obtain⟨rfl,rfl⟩:=vP h
  have hg:(eqGuard .eql xt ox oy (.string ⟨(kY a).toArray⟩) (.string ⟨(kY b).toArray⟩)).run P w=.ok () w:=by rfl
  refine qD.pure ok hM (rv:=.bool (tn a b)) ?_ rfl
  simp only[hg,binOp_string_eql,ByteArray.toList_eq]
  rfl
 ·rename_i a b
  have e1:rx=_:=hx
  have e2:ry=_:=hy
  subst e1;subst e2
  obtain⟨rfl,rfl⟩:=vP h
  have hg:(eqGuard .neq xt ox oy (.string ⟨(kY a).toArray⟩) (.string ⟨(kY b).toArray⟩)).run P w=.ok () w:=by rfl
  refine qD.pure ok hM (rv:=.bool (!tn a b)) ?_ rfl
  simp only[hg,Result.andThen_ok,binOp_string_neq,ByteArray.toList_eq,Sem.run_pure]
  rfl
 ·obtain⟨ht,h⟩:=dE h
  split at h
  ·rename_i r hr
   obtain⟨rfl,rfl⟩:=vP h
   obtain⟨us,rfl,lf⟩:=hx
   obtain⟨vs,rfl,cB⟩:=hy
   obtain⟨g1,g2⟩:=heq xt ht M _ _ us vs r w hr lf cB
   exact step (run_eqGuard_agg w _ xt ox oy us vs g1) (qD.pure ok hM (rv:=.bool r) (by simp only[binOp,Sem.run_bind,g2,Result.andThen_ok];rfl) rfl)
  ·exact h.elim
 ·obtain⟨ht,h⟩:=dE h
  split at h
  ·rename_i r hr
   obtain⟨rfl,rfl⟩:=vP h
   obtain⟨us,rfl,lf⟩:=hx
   obtain⟨vs,rfl,cB⟩:=hy
   obtain⟨g1,g2⟩:=heq xt ht M _ _ us vs r w hr lf cB
   exact step (run_eqGuard_agg w _ xt ox oy us vs g1) (qD.pure ok hM (rv:=.bool (!r)) (by simp only[binOp,Sem.run_bind,g2];rfl) rfl)
  ·exact h.elim
 ·exact h.elim
theorem vG2 {P M w}(ok:Ok M)(hM:M.H=w.heap){op x v u rx}(hx:zN M x rx)(h:yB (LL op x) v u):
  qD P (Op.unary op rx) M w v u:=by
 unfold LL at h
 split at h
 ·obtain⟨rfl,rfl⟩:=vP h
  have e1:rx=_:=hx
  subst e1
  exact qD.pure ok hM rfl rfl
 ·obtain⟨rfl,rfl⟩:=vP h
  have e1:rx=_:=hx
  subst e1
  exact qD.pure ok hM rfl rfl
 ·exact h.elim
theorem tI {P w k}{i:Int}{y:Nat}{c}(h0:0≤i)(h1:i≤y):(Instr.sliceBound (.int k i) y c).run P w=.ok i.toNat w:=by
 simp[Instr.sliceBound,asIntOf,h0,h1]
def xD (M:zH):Option zQ→Option Value→Prop
 |none,none=>True
 |some a,some v=>zN M a v
 |_,_=>False
theorem C4 {P M w b len cap l u lo hi gn fK}(iw:xD M lo gn)(gX:xD M hi fK)(hc:len≤cap)
  (h:qq len lo hi=some (true,l,u)):(Instr.sliceBounds b len cap gn fK none).run P w=.ok (l,u,cap) w∧l≤u∧u≤len∧(lo=none→l=0)∧(hi=none→u=len):=by
 unfold qq at h
 split at h
 ·cases h
  cases gn with
  |some _=>exact iw.elim
  |none=>cases fK with
   |some _=>exact gX.elim
   |none=>exact⟨by rfl,by simp,by simp,by simp,by simp⟩
 ·rename_i k i
  simp  at h
  obtain⟨⟨h0,h1⟩,rfl,rfl⟩:=h
  cases fK with
  |some _=>exact gX.elim
  |none=>cases gn with
   |none=>exact iw.elim
   |some v=>
    have e:v=.int k i:=iw
    subst e
    refine⟨?_,by omega,by simp,by simp,by simp⟩
    simp[Instr.sliceBounds]
    rw[tI h0 h1]
    rfl
 ·rename_i k i
  simp  at h
  obtain⟨⟨h0,h1⟩,rfl,rfl⟩:=h
  cases gn with
  |some _=>exact iw.elim
  |none=>cases fK with
   |none=>exact gX.elim
   |some v=>
    have e:v=.int k i:=gX
    subst e
    refine⟨?_,by simp,by omega,by simp,by simp⟩
    simp only[Instr.sliceBounds,Sem.run_bind,Sem.run_pure,Result.andThen_ok]
    rw[tI h0 (by omega)]
    rfl
 ·rename_i k i k' i'
  simp  at h
  obtain⟨⟨⟨h0,h1⟩,h2⟩,rfl,rfl⟩:=h
  cases gn with
  |none=>exact iw.elim
  |some v=>cases fK with
   |none=>exact gX.elim
   |some v'=>
    have e:v=.int k i:=iw
    have e':v'=.int k' i':=gX
    subst e;subst e'
    refine⟨?_,by omega,by omega,by simp,by simp⟩
    simp[Instr.sliceBounds]
    rw[tI (by omega) (by omega)]
    simp
    rw[tI h0 (by omega)]
    rfl
 ·cases h
def lh (A:Option Addr)(l c size:Nat):Option Addr:=if c=l then A else A.map (·.add (l*size))
theorem wL.cut {H C lo n l u A c}(h:wL H C lo n (.slice A n c))(h1:l≤u)(h2:u≤n):
  wL H C (lo+l) (u-l) (.slice (lh A l c C.sz) (u-l) (c-l)):=by
 obtain⟨A',c',e,h⟩:=h
 obtain⟨rfl,_,rfl⟩:=e
 refine⟨_,_,rfl,?_⟩
 cases hB:C.blk with
 |none=>
  rw[hB] at h
  obtain⟨rfl,rfl,rfl⟩:=h
  refine⟨?_,by omega,by omega⟩
  unfold lh;simp
 |some B=>
  rw[hB] at h
  obtain⟨hc,a,rfl,ha,hs⟩:=h
  refine⟨by omega,?_⟩
  unfold lh
  by_cases e:c=l
  ·simp_all
  ·rw[if_neg e]
   refine⟨a+l*C.sz,by simp[Addr.add_lit],.inr ?_,by grind⟩
   grind
theorem wL.cut' {H C lo n l u A c}(h:wL H C lo n (.slice A n c))(h1:l≤u)(h2:u≤c):
  wL H C (lo+l) (u-l) (.slice (lh A l c C.sz) (u-l) (c-l)):=by
 obtain⟨A',c',e,h⟩:=h
 obtain⟨rfl,_,rfl⟩:=e
 refine⟨_,_,rfl,?_⟩
 cases hB:C.blk with
 |none=>
  rw[hB] at h
  obtain⟨rfl,rfl,rfl⟩:=h
  refine⟨?_,by omega,by omega⟩
  unfold lh;simp
 |some B=>
  rw[hB] at h
  obtain⟨hc,a,rfl,ha,hs⟩:=h
  refine⟨by omega,?_⟩
  unfold lh
  by_cases e:c=l
  ·simp_all
  ·rw[if_neg e]
   refine⟨a+l*C.sz,by simp[Addr.add_lit],.inr ?_,by grind⟩
   grind
theorem yR6 {H F t}{xs:List t.den}{A n c l u}(h:zV H F (.sl t) xs (fun _=>some (.slice A n c)))(h1:l≤u)(h2:u≤n):
  zV H F (.sl t) (qS xs l (u-l)) (fun _=>some (.slice (lh A l c t.size) (u-l) (c-l))):=by
 simp[zV] at h⊢
 obtain⟨A',n',c',⟨rfl,rfl,rfl⟩,hn,hc,h⟩:=h
 have hl:=xq (xs:=xs) (lo:=l) (n:=u-l) (by omega)
 refine⟨_,_,_,⟨rfl,rfl,rfl⟩,hl.symm,by omega,?_⟩
 by_cases e0:u-l=0
 ·refine .inl ⟨by grind,fun hA=>?_⟩
  rcases h with⟨rfl,h0⟩|⟨B,o,rfl,_⟩
  ·cases A with
   |none=>simp_all
   |some a=>
    unfold lh at hA
    grind
  ·unfold lh at hA
   grind
 ·rcases h with⟨rfl,_⟩|⟨B,o,rfl,hB,hE⟩
  ·simp_all
  ·refine .inr ⟨B,o+l*t.size,?_,hB,fun i hi=>?_⟩
   ·unfold lh
    rw[if_neg (by omega)]
    simp[Addr.add_lit]
   ·obtain⟨bm,e1⟩:=Hg hi
    grind
theorem Xa {P w t e A n c l u gn fK}(hu:P.underlying t=some (.slice e))(he:0<P.cellsOf e)
  (hb:(Instr.sliceBounds true n c gn fK none).run P w=.ok (l,u,c) w):
  (Instr.sliceAt t (.slice A n c) gn fK none).run P w=.ok (.slice (lh A l c (P.cellsOf e)) (u-l) (c-l)) w:=by
 obtain⟨y,hy⟩:=la he
 simp[Instr.sliceAt,run_underlying hu,Instr.slice,hb,fg w hy,lh]
theorem Xb {M}:∀{vs us ns},tt vs=some ns→zJ (zR M) vs us→us=ns.map (.int .i64 ·)∧vs=ns.map (.int .i64 ·)
 |[],[],ns,h,_=>by cases h;simp
 |v::vs,u::us,ns,h,hh=>by
  unfold tt at h
  split at h
  ·simp_all
  ·rename_i n l heq
   cases heq
   split at h
   ·rename_i r hr
    cases h
    obtain⟨e1,e2⟩:=Xb hr hh.2
    have:u=.int .i64 n:=hh.1
    simp_all
   ·cases h
  ·cases h
theorem Xc {M}(ok:Ok M){id own cells}(ab:M.h id=some (.box own cells)):
  ∃M',M'.H=M.H∧M'.h=qY M.h id (.box false cells)∧Ok M'∧yN M M'∧M'.h id=some (.box false cells):=by
 cases own with
 |false=>exact⟨M,rfl,(xp ab).symm,ok,yN.refl M,ab⟩
 |true=>
  obtain⟨C,hC,hO⟩:=ok.obj id _ ab
  have oN:yM (M.freeze id (.box false cells) C) (.box false cells) C:=by
   have x:yD M (M.freeze id (.box false cells) C):=⟨fun _ C h=>⟨C,h,C.le_refl⟩,fun _ h=>.inl h,fun _ h=>.inl h,fun _ _=>rfl,fun _ _=>rfl,fun _ _=>rfl⟩
   obtain⟨B,vals,e,h1,h2,h3,h4,h5⟩:=hO.ext x fun _ _ _=>rfl
   exact⟨B,vals,e,h1,h2,h3,h4,fun _=>.inr (jX h1)⟩
  have:=zH.freeze_ok ok ab rfl hC rfl oN
  exact⟨M.freeze id _ C,rfl,rfl,this.1,this.2,yE _ _ _⟩
theorem vJs {P}{M}{w}(ok:Ok M)(hM:M.H=w.heap){t}{x v}{lo hi mx u rx gn fK xE}
  (hx:zN M x rx) (iw:xD M lo gn) (gX:xD M hi fK) (C5:xD M mx xE) (h:yB (xc P M.h t x lo hi mx) v u):qD P (Instr.sliceAt t rx gn fK xE) M w v u:=by
 unfold xc at h
 split at h
 ·rename_i e sh ty xs hu
  cases xE with
  |some _=>exact C5.elim
  |none=>
  obtain⟨hz,h⟩:=dE h
  have hz:=Nat.eq_of_beq_eq_true hz
  split at h
  ·rename_i gl l u' hc
   obtain⟨rfl,rfl,rfl⟩:=kq h
   have oQ:zV M.H (bif sh then M.G else M.F) (.sl ty) xs (fun _=>some rx):=hx
   have Xd:=oQ
   simp only[zV,Option.some.injEq] at Xd
   obtain⟨A,m,c,rfl,rfl,ir,_⟩:=Xd
   obtain⟨b1,b2,b3,b4,b5⟩:=C4 (P:=P) (w:=w) (b:=true) iw gX ir hc
   refine qD.pure ok hM (Xa hu (by rw[hz];exact ty.size_pos) b1) ?_
   have key:=yR6 oQ b2 b3
   rw[←hz] at key
   show zV _ _ _ _ _
   split
   ·rw[b4 rfl,b5 rfl] at key⊢
    simpa[qS] using key
   ·rw[b5 rfl] at key⊢
    have:qS xs l (xs.length-l)=xs.drop l:=by simp only[qS];rw[List.take_of_length_le (by simp)]
    rw[this] at key
    exact key
   ·rw[b4 rfl] at key⊢
    simpa[qS] using key
   ·exact key
  ·exact h.elim
 ·rename_i e id r hu
  cases xE with
  |some _=>exact C5.elim
  |none=>
  split at h
  ·rename_i own ty xs ab
   obtain⟨hz,h⟩:=dE h
   have hz:=Nat.eq_of_beq_eq_true hz
   split at h
   ·rename_i gl l u' hc
    obtain⟨rfl,rfl,rfl⟩:=kq h
    obtain⟨C,hC,hS⟩:=hx
    obtain⟨C',au,hO⟩:=ok.obj _ _ ab
    rw[hC] at au;cases au
    have hlen:=hO.1
    have cN:=hO.2.1
    have key:∀oS m,oS+m≤C.len→wL M.H C oS m rx→L7 C oS rx→qq (match hi with|none=>m|some _=>C.len-oS) lo hi=some (true,l,u')→
      qD P (Instr.sliceAt t rx gn fK none) M w (.c (.osl id (some (oS+l,u'-l)))) []:=by
     intro oS m hm oR fh ir
     have hS0:=oR
     clear hS
     obtain⟨A,c,rfl,_⟩:=hS0
     obtain⟨_,_,_,fh,C6⟩:=fh
     cases fh
     have MF:m≤c:=by
      obtain⟨A',c',e,MG⟩:=oR
      simp only[Value.slice.injEq] at e
      obtain⟨rfl,_,rfl⟩:=e
      cases hB:C.blk with
      |none=>rw[hB] at MG;omega
      |some B=>rw[hB] at MG;exact MG.1
     have hb:∃k,(Instr.sliceBounds true m c gn fK none).run P w=.ok (l,u',c) w∧l≤u'∧u'≤k∧k≤c∧oS+k≤C.len:=by
      cases hi with
      |none=>
       obtain⟨b1,b2,b3,b4,b5⟩:=C4 (P:=P) (w:=w) (b:=true) iw gX MF ir
       exact⟨m,b1,b2,b3,MF,hm⟩
      |some y=>
       have hk:C.len-oS≤c:=by omega
       obtain⟨b1,b2,b3,b4,b5⟩:=C4 (P:=P) (w:=w) (b:=true) iw gX hk ir
       refine⟨C.len-oS,?_,b2,b3,hk,by omega⟩
       cases fK with
       |none=>exact gX.elim
       |some ry=>exact b1
     obtain⟨k,b1,b2,b3,b6,b7⟩:=hb
     refine qD.pure ok hM (Xa hu (by rw[hz];exact ty.size_pos) b1) ⟨C,hC,by omega,?_,_,_,_,rfl,by omega⟩
     have:=wL.cut' oR b2 (by grind)
     rw[hz,←cN]
     exact this
    cases r with
    | none => exact key 0 C.len (by omega) hS (by
      obtain⟨A,c,rfl,h⟩:=hS
      refine⟨A,_,c,rfl,?_⟩
      cases hB:C.blk with
      |none=>rw[hB] at h;omega
      | some B => rw [hB] at h; have := h.1; omega) (by
      unfold LQ at hc
      rw[←hlen] at hc
      cases hi<;>exact hc)
    | some p => exact key p.1 p.2 hS.1 hS.2.1 hS.2.2 (by
      unfold LQ at hc
      rw[←hlen] at hc
      cases hi<;>exact hc)
   ·exact h.elim
  ·exact h.elim
 ·rename_i e km m id hu
  split at h
  ·rename_i own ty xs ab
   obtain⟨hz,h⟩:=dE h
   have hz:=Nat.eq_of_beq_eq_true hz
   split at h
   ·skip
    rename_i a b gl l u' _ hc
    obtain⟨dX,rfl,rfl⟩:=kq h
    simp only[Bool.and_eq_true,decide_eq_true_eq] at dX
    obtain⟨⟨dX,h1⟩,h2⟩:=dX
    subst dX
    obtain⟨C,hC,hS⟩:=hx
    obtain⟨C',au,hO⟩:=ok.obj _ _ ab
    rw[hC] at au;cases au
    have hlen:=hO.1
    obtain⟨A,c,rfl,hS⟩:=hS
    have MF:C.len≤c:=by
     cases hB:C.blk with
     |none=>rw[hB] at hS;omega
     |some B=>rw[hB] at hS;exact hS.1
    cases xE with
    |none=>exact C5.elim
    |some rm=>
     have hrm:rm=.int km m:=C5
     subst hrm
     obtain⟨b1,b2,b3,b4,b5⟩:=C4 (P:=P) (w:=w) (b:=true) iw gX (Nat.le_refl xs.length) hc
     obtain⟨i,hi⟩:=la (P:=P) (t:=e) (by rw[hz];exact ty.size_pos)
     cases gn with
     |none=>exact iw.elim
     |some rl=>cases fK with
      |none=>exact gX.elim
      |some rh=>
       have hbb:∃k1 i1 k2 i2,rl=.int k1 i1∧rh=.int k2 i2∧0≤i1∧i1≤i2∧i2≤(xs.length:Int)∧l=i1.toNat∧u'=i2.toNat:=by
        unfold qq at hc
        split at hc
        ·rename_i e1 _;cases e1
        ·rename_i e1;cases e1
        ·rename_i e1 _;cases e1
        ·rename_i k i k' i' e1 e2
         cases e1;cases e2
         simp only[Option.some.injEq,Prod.mk.injEq,Bool.and_eq_true,decide_eq_true_eq] at hc
         obtain⟨⟨⟨q0,q1⟩,q2⟩,rfl,rfl⟩:=hc
         exact⟨k,i,k',i',iw,gX,q0,q1,q2,rfl,rfl⟩
        ·cases hc
       obtain⟨k1,i1,k2,i2,rfl,rfl,q0,q1,q2,rfl,rfl⟩:=hbb
       have hr:∃v,(Instr.sliceAt t (.slice A C.len c) (some (.int k1 i1)) (some (.int k2 i2)) (some (.int km m))).run P w=.ok v w∧v.one1=true:=by
        refine⟨.slice (if m.toNat=i1.toNat then A else A.map (·.add (i1.toNat*P.cellsOf e))) (i2.toNat-i1.toNat) (m.toNat-i1.toNat),?_,rfl⟩
        have e1:=tI (P:=P) (w:=w) (k:=km) (i:=m) (y:=c) (c:=.slice3Acap) (by omega) (by omega)
        have e2:=tI (P:=P) (w:=w) (k:=k2) (i:=i2) (y:=m.toNat) (c:=.slice3B) (by omega) (by omega)
        have e3:=tI (P:=P) (w:=w) (k:=k1) (i:=i1) (y:=i2.toNat) (c:=.slice3C) (by omega) (by omega)
        simp[Instr.sliceAt,run_underlying hu,Instr.slice,Instr.sliceBounds,e1,e2,e3,fg w hi]
       obtain⟨v,hr,hv⟩:=hr
       exact qD.pure ok hM hr hv
   ·exact h.elim
  ·exact h.elim
 ·rename_i n e id off hu
  cases xE with
  |some _=>exact C5.elim
  |none=>
  obtain⟨hz,h⟩:=dE h
  have hz:=Nat.eq_of_beq_eq_true hz
  obtain⟨y,hy⟩:=la (P:=P) (t:=e) (by omega)
  split at h
  ·rename_i own cells ab
   obtain⟨C,B,hC,hB,rfl⟩:=hx
   split at h
   ·obtain⟨_,h⟩:=dE h
    obtain⟨rfl,rfl⟩:=vP h
    have MH:gn=none:=by cases gn with
     |none=>rfl
     |some _=>exact iw.elim
    have MI:fK=none:=by cases fK with
     |none=>rfl
     |some _=>exact gX.elim
    subst MH;subst MI
    refine qD.pure ok hM (rv:=.slice (some ⟨B,off,none⟩) n n) ?_ ⟨C,B,hC,hB,rfl⟩
    simp[Instr.sliceAt,run_underlying hu,gj,Instr.sliceBounds,fg w hy,Addr.add_lit]
   ·split at h
    ·rename_i vs de
     split at h
     ·rename_i ns gl l u' MJ hc
      obtain⟨rfl,rfl,rfl⟩:=dV h
      obtain⟨b1,b2,b3,b4,b5⟩:=C4 (P:=P) (w:=w) (b:=false) iw gX (Nat.le_refl n) hc
      obtain⟨M',a1,a2,a3,a4,a5⟩:=Xc ok ab
      obtain⟨C1,fi,le⟩:=a4.ext.κ id C hC
      obtain⟨C2,Xe,hO⟩:=a3.obj id _ a5
      rw[fi] at Xe;cases Xe
      obtain⟨B',vals,ev,k1,k2,k3,k4,k5⟩:=hO
      rw[le.blk,hB] at k1;cases k1
      obtain⟨q1,q2,q3⟩:=CR de
      have aV:=W2 k4 de
      obtain⟨e1,e2⟩:=Xb MJ aV
      have hlen:ns.length=n:=by rw[e2] at q3;simpa[hz] using q3
      refine⟨.slice (some (if n=l then⟨B,off,none⟩ else⟨B,off+l*P.cellsOf e,none⟩)) (u'-l) (n-l),w,M',?_,rfl,rfl,rfl,a1.trans hM,by cases own with
       |true=>exact a2
       |false=>rw[a2];exact xp ab,a3,a4,?_⟩
      ·simp[Instr.sliceAt,run_underlying hu,gj,b1,fg w hy,Addr.add_lit]
      ·show zV M'.H (bif true then M'.G else M'.F) (.sl (.int .i64)) (qS ns l (u'-l)) (fun _=>some _)
       simp only[zV,Option.some.injEq,Value.slice.injEq]
       have hl:=xq (xs:=ns) (lo:=l) (n:=u'-l) (by omega)
       refine⟨_,_,_,⟨rfl,rfl,rfl⟩,hl.symm,by omega,?_⟩
       by_cases e0:u'-l=0
       ·exact by grind
       ·refine .inr ⟨B,off+l*P.cellsOf e,by rw[if_neg (by omega)],k5 rfl,fun i hi=>?_⟩
        obtain⟨bm,e3⟩:=Hg hi
        rw[e3,hz]
        simp only[zV,Ty.size,Nat.mul_one,Nat.add_zero,yF,k3]
        have e4:(vals.extract off (off+n)).toList[l+i]? =(ns.map (Value.int .i64 ·))[l+i]? :=by rw[e1]
        simp only[Array.getElem?_toList,List.getElem?_map,List.getElem?_eq_getElem bm,Option.map_some] at e4
        rw[Array.getElem?_extract] at e4
        split at e4
        ·rw[Nat.add_assoc];exact e4
        ·cases e4
     ·exact h.elim
    ·exact h.elim
  ·exact h.elim
 ·exact h.elim
def zH.move (M:zH)(nm:Nat)(C:zT)(h:Hp)(H:Array Go.Obj):zH:={M with κ:=κset M.κ nm C,h:=h,H:=H}
theorem zH.move_ok {M}(ok:Ok M){nm:Nat}{o':Obj}{C':zT}{h'}{H'}(J:Nat→Prop)(aI:M.h nm=none)
    (hJ:∀j,J j→∃o,M.h j=some o∧o.owned=true∧h' j=some .gone) (dY:h' nm=some o') (bg:∀n,¬J n→n≠nm→h' n=M.h n) (cN:M.H.size≤H'.size)
    (hH:∀b,b<M.H.size→(∀j C,J j→M.κ j=some C→b∉C.fp)→H'[b]? =M.H[b]?) (bZ:∀b,b<M.H.size→qP H' b=qP M.H b)
    (mZ:∀b∈C'.fp,(M.H.size≤b∧b<H'.size)∨∃j C,J j∧M.κ j=some C∧b∈C.fp)
    (hO:yD M (M.move nm C' h' H')→yM (M.move nm C' h' H') o' C'):Ok (M.move nm C' h' H')∧yN M (M.move nm C' h' H'):=by
  have Xf:∀j C b,J j→M.κ j=some C→b∈C.fp→qH M b:=fun j C b hj hC hb=>by
    obtain⟨o,h1,h2,_⟩:=hJ j hj
    exact⟨j,o,C,h1,h2,hC,hb⟩
  have rf:∀b,M.F b→∀j C,J j→M.κ j=some C→b∉C.fp:=fun b hF j C hj hC hb=>(ok.own b (Xf j C b hj hC hb)).1 hF
  have x:yD M (M.move nm C' h' H'):=
    { κ:=fun n D h=>by
        have:n≠nm:=fun e=>by rw[e,ok.non nm aI] at h;cases h
        exact⟨D,by simp only[zH.move];rw[κset_ne _ _ this];exact h,D.le_refl⟩
      F:=fun _ h=>h
      G:=fun _ h=>h
      same:=fun b h=>hH b (ok.Flt b h) (rf b h)
      sameG:=fun b h=>hH b (ok.Flt b (ok.GF b h)) (rf b (ok.GF b h))
      bsz:=bZ}
  have MK:∀j,J j→j≠nm:=by grind
  have cF:∀n q,n≠nm→h' n=some q→q.owned=true→¬J n∧M.h n=some q:=by
    intro n q e h1 h2
    by_cases hj:J n
    · obtain⟨o,_,_,k⟩:=hJ n hj
      rw[k] at h1
      cases h1
      cases h2
    simp_all
  have oL:∀b,qH (M.move nm C' h' H') b→(M.H.size≤b∧b<H'.size)∨qH M b:=by
    rintro b ⟨n,q,D,h1,h2,h3,h4⟩
    by_cases e:n=nm
    · subst e
      simp only[zH.move,κset_same,Option.some.injEq] at h3
      grind
    · obtain⟨_,fJ⟩:=cF n q e h1 h2
      simp only[zH.move] at h3
      rw[κset_ne _ _ e] at h3
      exact .inr ⟨n,q,D,fJ,h2,h3,h4⟩
  refine⟨ok.build x (fun n=>n=nm∨J n) (fun n hn=>bg n (by grind) (by grind)) (fun n hn=>κset_ne _ _ fun e=>hn (.inl e)) ?_ ?_ cN ?_ ?_ ?_ ok.GF ?_,x,cN,?_,?_,fun b h _=>.inl h,fun b h _=>.inl h⟩
  · intro n q D hn h1 h2 h3 b hb
    refine hH b (ok.own b ⟨n,q,D,h1,h2,h3,hb⟩).2 fun j C hj hC hc=>?_
    obtain⟨o,k1,k2,_⟩:=hJ j hj
    exact ok.disj n j q o D C b (by grind) h1 k1 h2 k2 h3 hC hb hc
  · intro n q D hn h1 h2 h3 b hb
    exact(ok.own b ⟨n,q,D,h1,h2,h3,hb⟩).1
  · rintro n q (rfl|hj) h1
    · simp only[zH.move] at h1
      rw[dY] at h1;cases h1
      exact⟨C',κset_same _ _ _,hO x⟩
    · obtain⟨o,k1,_,k⟩:=hJ n hj
      simp only[zH.move] at h1
      rw[k] at h1;cases h1
      obtain⟨C,hC,_⟩:=ok.obj n o k1
      exact⟨C,by simp only[zH.move];rw[κset_ne _ _ (MK n hj)];exact hC,trivial⟩
  · rintro n (rfl|hj) h1
    · simp only[zH.move] at h1
      rw[dY] at h1;cases h1
    · obtain⟨o,_,_,k⟩:=hJ n hj
      simp only[zH.move] at h1
      rw[k] at h1;cases h1
  · rintro n q D b (rfl|hj) h1 h2 h3 hb
    · simp only[zH.move,κset_same,Option.some.injEq] at h3
      subst h3
      rcases mZ b hb with C7|⟨j,C,hj,hC,bj⟩
      · refine⟨fun k qk Dk hk k1 k2 k3 k4=>?_,fun hF=>?_,C7.2⟩
        · obtain⟨_,xu⟩:=cF k qk hk k1 k2
          simp only[zH.move] at k3
          rw[κset_ne _ _ hk] at k3
          have:=(ok.own b ⟨k,qk,Dk,xu,k2,k3,k4⟩).2
          omega
        · have:=ok.Flt b hF
          omega
      · have ho:=ok.own b (Xf j C b hj hC bj)
        refine⟨fun k qk Dk hk k1 k2 k3 k4=>?_,ho.1,by simp only[zH.move];omega⟩
        obtain⟨hkJ,xu⟩:=cF k qk hk k1 k2
        simp only[zH.move] at k3
        rw[κset_ne _ _ hk] at k3
        obtain⟨o,j1,j2,_⟩:=hJ j hj
        exact ok.disj k j qk o Dk C b (by grind) xu j1 k2 j2 k3 hC k4 bj
    · obtain⟨o,_,_,k⟩:=hJ n hj
      simp only[zH.move] at h1
      grind
  · intro b hb
    have:=ok.Flt b hb
    simp only[zH.move];omega
  · intro b hb hn
    exact hH b hb (by grind)
  grind
theorem Xg {P M w}(ok:Ok M)(hM:M.H=w.heap){nm vs us e s}(aI:M.h nm=none)
  (cB:zJ (zR M) vs us.toList) (hr:s.run P w=.ok (.pointer (some ⟨w.heap.size,0,none⟩)) (w.alloc (.cells us e))):
  qD P s M w (.c (.ptr nm 0)) [(nm,.box true vs)]:=by
 let C:zT:=⟨some M.H.size,0,0,0,[]⟩
 have := zH.new_ok ok aI (.box true vs) C (.cells us e) (by simp [C, zT.fp]) (by
  refine⟨M.H.size,us,e,rfl,rfl,tx,cB.mono fun _ _ h=>h.ext (zH.new_ext ok aI _ _ _),by simp⟩)
 exact⟨_,_,_,hr,rfl,rfl,rfl,by show M.H.push _=w.heap.push _;rw[hM],rfl,this.1,this.2,C,M.H.size,κset_same _ _ _,rfl,by rw[hM]⟩
theorem C8 {H F}:∀t rd,(∀j,j<t.size→rd j=(eI t)[j]?)→zV H F t t.dflt rd
 |.int k,rd,h
 |.bool,rd,h=>by simp[zV];rw[h 0 (by simp[Ty.size])];rfl
 |.sl t,rd,h=>by
  simp[Ty.dflt]
  exact⟨none,0,0,by rw[h 0 (by simp[Ty.size])];rfl,rfl,by simp,by simp⟩
 |.pair a b,rd,h=>by
  have hl:∀t:Ty,(eI t).length=t.size:=by
   intro t
   induction t with
   |pair a b xF xG=>simp[eI,Ty.size,xF,xG]
   |_=>rfl
  simp[Ty.size,eI] at h
  refine⟨C8 a rd (by grind),C8 b _ (by grind)⟩
theorem Ho:∀t:Ty,(eI t).length=t.size
 |.int _|.bool|.sl _=>rfl
 |.pair a b=>by simp[eI,Ty.size,Ho a,Ho b]
theorem yX5 {a b}(h:LI a b=true):a=b:=by
 unfold LI at h
 split at h
 ·simp  at h
  rw[oC h.1,h.2]
 all_goals grind
theorem Xh:∀{l m},CG l m=true→l=m
 |[],[],_=>rfl
 |a::l,b::m,h=>by
  simp[CG] at h
  rw[yX5 h.1,Xh h.2]
theorem nn {P e t}(h:gb P e=some t):∃i z,P.info? e=some i∧i.zero=some z∧i.size=t.size∧z.cells.toList=eI t∧P.cellsOf e=t.size∧P.bytesOf e=i.bytes∧z.cells.size=t.size:=by
 unfold gb at h
 split at h
 ·rename_i t' i h1 h2
  split at h
  ·rename_i z hz
   cases hb:(Nat.beq i.size t'.size&&CG z.cells.toList (eI t')) with
   |false=>simp_all
   |true=>
    rw[hb] at h
    cases h
    simp only[Bool.and_eq_true] at hb
    have e1:=Nat.eq_of_beq_eq_true hb.1
    have e2:=Xh hb.2
    refine⟨i,z,h2,hz,e1,e2,by rw[L9 h2];exact e1,yTz h2,?_⟩
    have:=congrArg List.length e2
    rw[Ho] at this
    omega
  ·cases h
 ·cases h
theorem Xi {z:Value}{t}(h:z.cells.toList=eI t)(hs:z.cells.size=t.size){i j} hj:z.cells[(i*t.size+j)%z.cells.size]! =(eI t)[j]'(by rw[Ho];exact hj):=by
 have e1:(i*t.size+j)%z.cells.size=j:=by rw[hs,Nat.mul_comm,Nat.mul_add_mod,Nat.mod_eq_of_lt hj]
 grind
theorem Xj {H F}{z:Value}{t}(h:z.cells.toList=eI t)(hs:z.cells.size=t.size){n i}(hi:i<n):
  zV H F t t.dflt (fun j=>(madeCells z.cells (n*t.size))[i*t.size+j]?):=by
 refine C8 t _ fun j hj=>?_
 have aL:=Nat.mul_le_mul_right t.size (show i+1≤n by omega)
 rw[List.getElem?_eq_getElem (by grind),←Xi h hs (i:=i) hj]
 simp[madeCells]
 grind
theorem Xk {P M w}(ok:Ok M)(hM:M.H=w.heap){nm t xs us e s c}(aI:M.h nm=none)
  (hc:xs.length≤c) (hs:c*t.size≤us.size) (hx:∀i h,zV M.H M.G t xs[i] (fun j=>us[i*t.size+j]?))
  (hr:s.run P w=.ok (.slice (some ⟨w.heap.size,0,none⟩) xs.length c) (w.alloc (.cells us e))):
  qD P s M w (.c (.osl nm none)) [(nm,.arr true t xs)]:=by
 let C:zT:=⟨some M.H.size,xs.length,t.size,0,[]⟩
 have x:=zH.new_ext ok aI (.arr true t xs) C (.cells us e)
 have hle:=Nat.mul_le_mul_right t.size hc
 have := zH.new_ok ok aI (.arr true t xs) C (.cells us e) (by simp [C, zT.fp]) (by
  refine⟨rfl,rfl,by grind,us,e,tx,by simp,by omega,fun i hi=>?_⟩
  exact yO x.G x.sameG t _ _ _ (by simp) (hx i hi))
 refine⟨_,_,_,hr,rfl,rfl,rfl,by show M.H.push _=w.heap.push _;rw[hM],rfl,this.1,this.2,C,κset_same _ _ _,_,c,rfl,?_⟩
 refine⟨hc,0,by rw[hM],by simp,?_⟩
 simp
 have:qP (M.H.push (.cells us e)) M.H.size=us.size:=by simp[qP]
 show c*t.size≤qP (M.H.push (.cells us e)) M.H.size
 omega
theorem yZ4 {P M w}(ok:Ok M)(hM:M.H=w.heap){nm t zs}(aI:M.h nm=none)(hz:zeroCells P t=some zs):
  qD P (Instr.alloc t true (.tuple #[])) M w (.c (.ptr nm 0)) [(nm,.box true zs)]:=by
 obtain⟨i,v,h1,h2,h3,h4,rfl⟩:=WK hz
 refine Xg ok hM aI (us:=v.cells) (e:=t) (Hb M h4) ?_
 simp[Instr.alloc,zeroValue,typeInfo,h1,h2,newVar,newRow]
theorem Xl {P M w}(ok:Ok M)(hM:M.H=w.heap){nm t x rx vs}(aI:M.h nm=none)(hx:zN M x rx)(hv:kX x=some vs):
  qD P (Instr.box t rx) M w (.c (.ptr nm 0)) [(nm,.box true vs)]:=by
 refine Xg ok hM aI (us:=rx.cells) (e:=t) (Hf hv hx) ?_
 rfl
theorem vJ8 {P M w}(ok:Ok M)(hM:M.H=w.heap){nm t x rx vs}(aI:M.h nm=none)(hx:zN M x rx)(hv:kX x=some vs) m:
  qD P (Instr.box t rx) M w (.c (.ptr nm 0)) [(nm,.box (!m) vs)]:=by
 cases m with
 |false=>exact Xl ok hM aI hx hv
 |true=>
  obtain⟨rv,w',M',a1,a2,a3,a4,a5,a6,a7,a8,a9⟩:=Xl (P:=P) (t:=t) ok hM aI hx hv
  have ab:M'.h nm=some (.box true vs):=by rw[a6];exact yE _ _ _
  obtain⟨M2,b1,b2,b3,b4,b5⟩:=Xc a7 ab
  refine⟨rv,w',M2,a1,a2,a3,a4,b1.trans a5,?_,b3,a8.trans b4,a9.ext b4.ext⟩
  rw[b2,a6]
  funext n
  show qY (qY M.h nm _) nm _ n=qY M.h nm _ n
  by_cases e:n=nm
  ·subst e;rw[yE,yE];rfl
  ·rw[yH _ _ e,yH _ _ e,yH _ _ e]
theorem Xm {α:Type}{n i:Nat}{a:α} h:(List.replicate n a)[i]=a:=by simp
theorem yWa {P M w}(ok:Ok M)(hM:M.H=w.heap){nm n us e s c}(aI:M.h nm=none)
  (hc:n≤c) (hs:c≤us.size) (hx:∀i,i<n→us[i]? =some (.slice none 0 0))
  (hr:s.run P w=.ok (.slice (some ⟨w.heap.size,0,none⟩) n c) (w.alloc (.cells us e))):
  qD P s M w (.c (.osl nm none)) [(nm,.mat 0 (List.replicate n []))]:=by
 let C:zT:=⟨some M.H.size,n,1,0,List.replicate n (none,0)⟩
 have hfm:(List.replicate n ((none,0):Option Nat×Nat)).filterMap (·.1)=[]:=by
  simp
 have mZ:C.fp=[M.H.size]:=by simp[C,zT.fp]
 have := zH.new_ok ok aI (.mat 0 (List.replicate n [])) C (.cells us e) (by simp_all) (by
  refine⟨rfl,by simp[C],rfl,by simp[C],by simp_all,us,e,tx,by grind,fun i hi=>?_⟩
  have eM:i<n:=by simp_all
  refine⟨none,.slice none 0 0,by grind,hx i eM,⟨rfl,by simp⟩,by simp⟩)
 refine⟨_,_,_,hr,rfl,rfl,rfl,by show M.H.push _=w.heap.push _;rw[hM],rfl,this.1,this.2,C,κset_same _ _ _,_,c,rfl,?_⟩
 refine⟨hc,0,by rw[hM],by simp,?_⟩
 simp
 have:qP (M.H.push (.cells us e)) M.H.size=us.size:=by simp[qP]
 show c*1≤qP (M.H.push (.cells us e)) M.H.size
 omega
theorem yN5 {P M w}(ok:Ok M)(hM:M.H=w.heap){mat nm t l c v u rl rc}(hl:zN M l rl)(hc:zN M c rc)
  (h:yB (w7 P mat nm M.h t l c) v u):qD P (Instr.makeSlice t rl rc) M w v u:=by
 unfold w7 at h
 split at h
 ·rename_i e l c hu aI
  have e1:rl=.int .i64 l:=hl
  have e2:rc=.int .i64 c:=hc
  subst e1;subst e2
  cases mat with
  |true=>
   split at h
   ·rename_i cD
    obtain⟨dX,rfl,rfl⟩:=dV h
    obtain⟨i,z,h1,h2,h3,h4,h5,h6,h7⟩:=nn cD
    simp[Bool.and_eq_true] at dX
    obtain⟨⟨⟨o1,o2⟩,o3⟩,o4⟩:=dX
    have hr:=run_make (P:=P) w t e i z hu h1 h2 .i64 .i64 l c o1 o2 (by grind) (by omega)
    have cN:i.size=1:=h3
    rw[cN,Nat.mul_one] at hr
    refine yWa ok hM aI (n:=l.toNat) (c:=c.toNat) (by omega) (by rw[size_madeCells];omega) (fun k hk=>?_) hr
    have Hq:z.cells.toList=[.slice none 0 0]:=h4
    have ML:z.cells.size=1:=h7
    simp only[madeCells]
    have:z.cells.toList[0]'(by simp;omega)=.slice none 0 0:=by grind
    grind
   ·exact h.elim
  |false=>
   simp  at h
   split at h
   ·rename_i ty cD
    obtain⟨dX,rfl,rfl⟩:=dV h
    obtain⟨i,z,h1,h2,h3,h4,h5,h6,h7⟩:=nn cD
    simp  at dX
    obtain⟨⟨⟨o1,o2⟩,o3⟩,o4⟩:=dX
    have hr:=run_make (P:=P) w t e i z hu h1 h2 .i64 .i64 l c o1 o2 (by grind) (by omega)
    refine Xk ok hM aI (c:=c.toNat) (us:=madeCells z.cells (c.toNat*ty.size)) (e:=e) (by grind) (by rw[size_madeCells];omega) (fun k hk=>?_) (by simp_all)
    rw[Xm hk]
    simp  at hk
    exact Xj h4 h7 (by omega)
   ·exact h.elim
 ·exact h.elim
end Go.Ab
