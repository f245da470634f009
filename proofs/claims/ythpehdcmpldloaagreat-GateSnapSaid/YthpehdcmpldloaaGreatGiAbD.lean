/- part 3 -/
import Derived.Test.YthpehdcmpldloaaGreatGiAbC
set_option linter.unusedVariables false
set_option linter.unusedSimpArgs false
namespace Go.Ab
abbrev sP (d i:Nat):Nat×VS:=(d,.c (.lit (.ptr (1001000+i) 0)))
abbrev sO (d i:Nat):Nat×VS:=(d,.c (.lit (.osl (1001000+i) none)))
abbrev sI (d:Nat):Nat×VS:=(d,.c (.int .i64))
abbrev oB (l:List CS):OS:=.box true l
abbrev oA (t:Ty):OS:=.arr true t
abbrev sp (l:List (Nat×VS))(o:List OS):zE:=⟨l,o,[]⟩
def zJ (f:Nat)(as:List AS)(rs:RS){X:Type}(s:Nat→AD as→Option X)(pk:X→RL rs.cells)(_:RL rs.cells→X):Nat×mZ:=(f,fun k nm args h=>nV as rs (s k) pk nm args h)
def yW (f:Nat)(as:List AX)(rs:RS)(os:List (List RC))(ns:Nat){X:Type}(s:Nat→XD as→Option X)(pk:X→RL (rs.cells++os.flatten))(_:RL (rs.cells++os.flatten)→X):Nat×mZ:=(f,fun k nm args h=>ru as rs os ns (s k) pk nm args h)
def Im (f:Nat)(as:List AX)(rs:RS)(os:List (List RC))(ns:Nat)(dq:RS)(dr:List (List RC))(fi:Nat){X Y:Type}(s:Nat→XD as→Option (X⊕Y))(pk:X→RL (rs.cells++os.flatten))(iy:Y→RL (dq.cells++dr.flatten))(_:RL (rs.cells++os.flatten)→X)(_:RL (dq.cells++dr.flatten)→Y):Nat×mZ:=(f,fun k nm args h=>tl as rs os ns dq dr fi (s k) pk iy nm args h)
theorem fA {E:Env}(fn:Func)(A:zY){f:Nat}{as:List AS}{rs:RS}{X:Type}{s:Nat→AD as→Option X}{pk:X→RL rs.cells}{up:RL rs.cells→X}(hE:jJ E)(hL:wG E.P A 1000 0 fn.ntmps (zR fn))
  (aV:Uh E A 0 fn as rs up s:=by intro k d;kernel_rfl)
  (hf:E.P.funcs[f]? =some fn:=by kernel_rfl) (hb:fn.body.isNone=false:=by kernel_rfl) (hn:(fn.name== "runtime.NumGoroutine")=false:=by kernel_rfl) (fe:∀d,pk (up d)=d:=by intro d;rfl):
  zD E.P (zJ f as rs s pk up):=vR6 hE aV hL hf hb hn fe
theorem fX {E:Env}(fn:Func)(A:zY)(na:Nat){f:Nat}{as:List AX}{rs:RS}{os:List (List RC)}{ns:Nat}{X:Type}{s:Nat→XD as→Option X}{pk:X→RL (rs.cells++os.flatten)}{up:RL (rs.cells++os.flatten)→X}(hE:jJ E)(hL:wG E.P A 1000 na fn.ntmps (zR fn))
  (aV:yIi E A na fn as rs os ns up s:=by intro k d;kernel_rfl)
  (hf:E.P.funcs[f]? =some fn:=by kernel_rfl) (hb:fn.body.isNone=false:=by kernel_rfl) (hn:(fn.name== "runtime.NumGoroutine")=false:=by kernel_rfl) (kp:tj as na=true:=by kernel_rfl) (mj:(!as.any AX.isChn||A.loops.isEmpty)=true:=by kernel_rfl) (fe:∀d,pk (up d)=d:=by intro d;rfl):
  zD E.P (yW f as rs os ns s pk up):=Ui hE aV hL hf hb hn kp mj fe
theorem fN {E:Env}(fn:Func)(A:zY)(na:Nat){f:Nat}{as:List AX}{rs dq:RS}{os dr:List (List RC)}{ns fi:Nat}{X Y:Type}{s:Nat→XD as→Option (X⊕Y)}{pk:X→RL (rs.cells++os.flatten)}{up:RL (rs.cells++os.flatten)→X}{iy:Y→RL (dq.cells++dr.flatten)}{kQ:RL (dq.cells++dr.flatten)→Y}(hE:jJ E)(hL:wG E.P A 1000 na fn.ntmps (zR fn))
  (aV:yNx E A na fn as rs os ns dq dr fi up kQ s:=by intro k d;kernel_rfl)
  (hf:E.P.funcs[f]? =some fn:=by kernel_rfl) (hb:fn.body.isNone=false:=by kernel_rfl) (hn:(fn.name== "runtime.NumGoroutine")=false:=by kernel_rfl) (kp:tj as na=true:=by kernel_rfl) (mj:(!as.any AX.isChn||A.loops.isEmpty)=true:=by kernel_rfl) (fe:∀d,pk (up d)=d:=by intro d;rfl) (ng:∀d,iy (kQ d)=d:=by intro d;rfl):
  zD E.P (Im f as rs os ns dq dr fi s pk iy up kQ):=vJe hE aV hL hf hb hn kp mj fe ng
def vm (f:Nat)(sh:Bool)(t:Ty)(r:RC)(s:Nat→List t.den→Option r.den):Nat×mZ:=
 (f,fun k nm args h=>nV [.c (.dat sh t)] (.c r) (fun d=>s k d.1) (fun x=>(x,())) nm args h)
theorem fC {E:Env}(fn:Func)(A:zY){f:Nat}{sh:Bool}{t:Ty}{r:RC}{s:Nat→List t.den→Option r.den}(hE:jJ E)(hL:wG E.P A 1000 0 fn.ntmps (zR fn))
  (cL:∀k,j4 E A k 1000 0 fn [.c .nsl] (lq []) (mg (.c r) (fun d=>d.1))=s k []:=by intro k;kernel_rfl)
  (aV:∀k xs,j4 E A k 1000 0 fn [.c (.nfl sh t xs)] (lq []) (mg (.c r) (fun d=>d.1))=s k xs:=by intro k xs;kernel_rfl)
  (hf:E.P.funcs[f]? =some fn:=by kernel_rfl) (hb:fn.body.isNone=false:=by kernel_rfl) (hn:(fn.name== "runtime.NumGoroutine")=false:=by kernel_rfl):zD E.P (vm f sh t r s):=
 vGp (rs:=.c r) (pack:=fun x=>(x,())) (unpack:=fun d=>d.1) hE cL aV hL hf hb hn
def qZ {T:Type}(z:T)(b:T→T):Nat→T
 |0=>z
 |n+1=>b (qZ z b n)
theorem lp {E:Env}{A:zY}{na nt:Nat}{b:Code}(L:zT){Y:Type}(lV:uy L.outs→L.X)(c:Y→su L.ins→Option L.X)(f:Nat→Nat→Y)(bf:Nat→Y→Y)(hE:jJ E)(hL:wG E.P A 1000 na nt b)
  (hs:yPg E A na nt b L.ins L.outs lV c bf:=by intro k rec d;kernel_rfl)
  (hX:∀o R K,L.elim (1000+gT) (lV o) R K=Cf (1000+gT) L.outs o K:=by intro o R K;first|rfl|(rcases o with o|o<;>rfl)|(rcases o with o|o|o<;>rfl)|(rcases o with o|o|o|o<;>rfl)|(rcases o with o|o|o|o|o<;>rfl))
  (h0:∀k d,c (f k 0) d=none:=by intros;rfl) (h1:∀k n,f k (n+1)=bf k (f k n):=by intros;rfl) (hf:(⟨L.ins,L.outs,L.X,fun k d=>c (f k k) d,L.elim⟩:zT)=L:=by rfl):zS E.P 1000 na nt b L:=by
 rw[←hf];exact vSc hE hs f _ hX hL h0 h1
def ins {α:Type}(b:Nat)(xs:List α)(i:Int)(ys:List α):Option (List α):=
 bif decide (0≤i)&&decide (i≤(xs.length:Int))&&Nat.beq ys.length 1&&zN (xs.length+1) b then some (xs.take i.toNat++(ys++xs.drop i.toNat)) else none
end Go.Ab
