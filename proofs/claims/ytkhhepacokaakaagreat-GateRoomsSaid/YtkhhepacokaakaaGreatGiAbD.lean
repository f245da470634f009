/- part 3 -/
import Derived.Test.YtkhhepacokaakaaGreatGiAbC
set_option linter.unusedVariables false
set_option linter.unusedSimpArgs false
namespace Go.Ab
def zK (f:Nat)(as:List AS)(rs:RS){X:Type}(s:Nat→AD as→Option X)(pk:X→RL rs.cells):Nat×kp:=(f,fun k nm args h=>kU as rs (s k) pk nm args h)
def yV (f:Nat)(as:List AX)(rs:RS)(os:List (List RC))(ns:Nat){X:Type}(s:Nat→XD as→Option X)(pk:X→RL (rs.cells++os.flatten)):Nat×kp:=(f,fun k nm args h=>nv as rs os ns (s k) pk nm args h)
def HM (f:Nat)(as:List AX)(rs:RS)(os:List (List RC))(ns:Nat)(rs2:RS)(os2:List (List RC))(ns2:Nat){X Y:Type}(s:Nat→XD as→Option (X⊕Y))(pk:X→RL (rs.cells++os.flatten))(fg:Y→RL (rs2.cells++os2.flatten)):Nat×kp:=(f,fun k nm args h=>oZ as rs os ns rs2 os2 ns2 (s k) pk fg nm args h)
theorem fA {E:Env}(fn:Func)(A:qB){f:Nat}{as:List AS}{rs:RS}{X:Type}{s:Nat→AD as→Option X}{pk:X→RL rs.cells}(up:RL rs.cells→X)(hE:jE E)(hL:vR E.P A 1000 0 fn.ntmps (zX fn))
  (aF:NL E A 0 fn as rs up s:=by intro k d;kernel_rfl)
  (hf:E.P.funcs[f]? =some fn:=by kernel_rfl) (hb:fn.body.isNone=false:=by kernel_rfl) (hn:(fn.name== "runtime.NumGoroutine")=false:=by kernel_rfl) (df:∀d,pk (up d)=d:=by intro d;rfl):
  zB E.P (zK f as rs s pk):=yVq hE aF hL hf hb hn df
theorem fX {E:Env}(fn:Func)(A:qB)(na:Nat){f:Nat}{as:List AX}{rs:RS}{os:List (List RC)}{ns:Nat}{X:Type}{s:Nat→XD as→Option X}{pk:X→RL (rs.cells++os.flatten)}(up:RL (rs.cells++os.flatten)→X)(hE:jE E)(hL:vR E.P A 1000 na fn.ntmps (zX fn))
  (aF:Y1 E A na fn as rs os ns up s:=by intro k d;kernel_rfl)
  (hf:E.P.funcs[f]? =some fn:=by kernel_rfl) (hb:fn.body.isNone=false:=by kernel_rfl) (hn:(fn.name== "runtime.NumGoroutine")=false:=by kernel_rfl) (gu:oY as na=true:=by kernel_rfl) (jc:(!as.any AX.isChn||A.loops.isEmpty)=true:=by kernel_rfl) (df:∀d,pk (up d)=d:=by intro d;rfl):
  zB E.P (yV f as rs os ns s pk):=yTy hE aF hL hf hb hn gu jc df
theorem fN {E:Env}(fn:Func)(A:qB)(na:Nat){f:Nat}{as:List AX}{rs rs2:RS}{os os2:List (List RC)}{ns ns2:Nat}{X Y:Type}{s:Nat→XD as→Option (X⊕Y)}{pk:X→RL (rs.cells++os.flatten)}(up:RL (rs.cells++os.flatten)→X){fg:Y→RL (rs2.cells++os2.flatten)}(iw:RL (rs2.cells++os2.flatten)→Y)(hE:jE E)(hL:vR E.P A 1000 na fn.ntmps (zX fn))
  (aF:Y2 E A na fn as rs os ns rs2 os2 ns2 up iw s:=by intro k d;kernel_rfl)
  (hf:E.P.funcs[f]? =some fn:=by kernel_rfl) (hb:fn.body.isNone=false:=by kernel_rfl) (hn:(fn.name== "runtime.NumGoroutine")=false:=by kernel_rfl) (gu:oY as na=true:=by kernel_rfl) (jc:(!as.any AX.isChn||A.loops.isEmpty)=true:=by kernel_rfl) (df:∀d,pk (up d)=d:=by intro d;rfl) (kx:∀d,fg (iw d)=d:=by intro d;rfl):
  zB E.P (HM f as rs os ns rs2 os2 ns2 s pk fg):=yO9 hE aF hL hf hb hn gu jc df kx
def rN (f:Nat)(sh:Bool)(t:Ty)(r:RC)(s:Nat→List t.den→Option r.den):Nat×kp:=
 (f,fun k nm args h=>kU [.c (.dat sh t)] (.c r) (fun d=>s k d.1) (fun x=>(x,())) nm args h)
theorem fC {E:Env}(fn:Func)(A:qB){f:Nat}{sh:Bool}{t:Ty}{r:RC}{s:Nat→List t.den→Option r.den}(hE:jE E)(hL:vR E.P A 1000 0 fn.ntmps (zX fn))
  (bW:∀k,fY E A k 1000 0 fn [.c .nsl] (ir []) (jb (.c r) (fun d=>d.1))=s k []:=by intro k;kernel_rfl)
  (aF:∀k xs,fY E A k 1000 0 fn [.c (.nfl sh t xs)] (ir []) (jb (.c r) (fun d=>d.1))=s k xs:=by intro k xs;kernel_rfl)
  (hf:E.P.funcs[f]? =some fn:=by kernel_rfl) (hb:fn.body.isNone=false:=by kernel_rfl) (hn:(fn.name== "runtime.NumGoroutine")=false:=by kernel_rfl):zB E.P (rN f sh t r s):=
 yMp (rs:=.c r) (pack:=fun x=>(x,())) (unpack:=fun d=>d.1) hE bW aF hL hf hb hn
def vT {T:Type}(z:T)(b:T→T):Nat→T
 |0=>z
 |n+1=>b (vT z b n)
theorem lp {E:Env}{A:qB}{na nt:Nat}{b:Code}(L:qC){Y:Type}(iS:qg L.outs→L.X)(c:Y→ot L.ins→Option L.X)(f:Nat→Nat→Y)(bf:Nat→Y→Y)(hE:jE E)(hL:vR E.P A 1000 na nt b)
  (hs:Y0 E A na nt b L.ins L.outs iS c bf:=by intro k rec d;kernel_rfl)
  (hX:∀o R K,L.elim (1000+eC) (iS o) R K=xk (1000+eC) L.outs o K:=by intro o R K;first|rfl|(rcases o with o|o<;>rfl)|(rcases o with o|o|o<;>rfl)|(rcases o with o|o|o|o<;>rfl)|(rcases o with o|o|o|o|o<;>rfl))
  (h0:∀k d,c (f k 0) d=none:=by intros;rfl) (h1:∀k n,f k (n+1)=bf k (f k n):=by intros;rfl) (hf:(⟨L.ins,L.outs,L.X,fun k d=>c (f k k) d,L.elim⟩:qC)=L:=by rfl):zZ E.P 1000 na nt b L:=by
 rw[←hf]
 exact yU2 hE hs f _ hX hL h0 h1
def ins {α:Type}(b:Nat)(xs:List α)(i:Int)(ys:List α):Option (List α):=
 bif decide (0≤i)&&decide (i≤(xs.length:Int))&&Nat.beq ys.length 1&&zY (xs.length+1) b then some (xs.take i.toNat++(ys++xs.drop i.toNat)) else none
end Go.Ab
