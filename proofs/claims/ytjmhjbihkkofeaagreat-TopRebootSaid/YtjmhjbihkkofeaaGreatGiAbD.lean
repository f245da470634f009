/- part 3 -/
import Derived.Test.YtjmhjbihkkofeaaGreatGiAbC
set_option linter.unusedVariables false
set_option linter.unusedSimpArgs false
namespace Go.Ab
def zK (f:Nat)(as:List AS)(rs:RS){X:Type}(s:Nat→AD as→Option X)(pk:X→RL rs.cells):Nat×kC:=(f,fun k nm args h=>lq as rs (s k) pk nm args h)
def yV (f:Nat)(as:List AX)(rs:RS)(os:List (List RC))(ns:Nat){X:Type}(s:Nat→XD as→Option X)(pk:X→RL (rs.cells++os.flatten)):Nat×kC:=(f,fun k nm args h=>nI as rs os ns (s k) pk nm args h)
def H7 (f:Nat)(as:List AX)(rs:RS)(os:List (List RC))(ns:Nat)(rs2:RS)(os2:List (List RC))(ns2:Nat){X Y:Type}(s:Nat→XD as→Option (X⊕Y))(pk:X→RL (rs.cells++os.flatten))(fq:Y→RL (rs2.cells++os2.flatten)):Nat×kC:=(f,fun k nm args h=>pt as rs os ns rs2 os2 ns2 (s k) pk fq nm args h)
theorem fA {E:Env}(fn:Func)(A:qB){f:Nat}{as:List AS}{rs:RS}{X:Type}{s:Nat→AD as→Option X}{pk:X→RL rs.cells}(up:RL rs.cells→X)(hE:jL E)(hL:vU E.P A 1000 0 fn.ntmps (zY fn))
  (aG:Od E A 0 fn as rs up s:=by intro k d;kernel_rfl)
  (hf:E.P.funcs[f]? =some fn:=by kernel_rfl) (hb:fn.body.isNone=false:=by kernel_rfl) (hn:(fn.name== "runtime.NumGoroutine")=false:=by kernel_rfl) (dh:∀d,pk (up d)=d:=by intro d;rfl):
  zB E.P (zK f as rs s pk):=yT3 hE aG hL hf hb hn dh
theorem fX {E:Env}(fn:Func)(A:qB)(na:Nat){f:Nat}{as:List AX}{rs:RS}{os:List (List RC)}{ns:Nat}{X:Type}{s:Nat→XD as→Option X}{pk:X→RL (rs.cells++os.flatten)}(up:RL (rs.cells++os.flatten)→X)(hE:jL E)(hL:vU E.P A 1000 na fn.ntmps (zY fn))
  (aG:ZN E A na fn as rs os ns up s:=by intro k d;kernel_rfl)
  (hf:E.P.funcs[f]? =some fn:=by kernel_rfl) (hb:fn.body.isNone=false:=by kernel_rfl) (hn:(fn.name== "runtime.NumGoroutine")=false:=by kernel_rfl) (gA:pq as na=true:=by kernel_rfl) (ju:(!as.any AX.isChn||A.loops.isEmpty)=true:=by kernel_rfl) (dh:∀d,pk (up d)=d:=by intro d;rfl):
  zB E.P (yV f as rs os ns s pk):=yOc hE aG hL hf hb hn gA ju dh
theorem fN {E:Env}(fn:Func)(A:qB)(na:Nat){f:Nat}{as:List AX}{rs rs2:RS}{os os2:List (List RC)}{ns ns2:Nat}{X Y:Type}{s:Nat→XD as→Option (X⊕Y)}{pk:X→RL (rs.cells++os.flatten)}(up:RL (rs.cells++os.flatten)→X){fq:Y→RL (rs2.cells++os2.flatten)}(iF:RL (rs2.cells++os2.flatten)→Y)(hE:jL E)(hL:vU E.P A 1000 na fn.ntmps (zY fn))
  (aG:ZO E A na fn as rs os ns rs2 os2 ns2 up iF s:=by intro k d;kernel_rfl)
  (hf:E.P.funcs[f]? =some fn:=by kernel_rfl) (hb:fn.body.isNone=false:=by kernel_rfl) (hn:(fn.name== "runtime.NumGoroutine")=false:=by kernel_rfl) (gA:pq as na=true:=by kernel_rfl) (ju:(!as.any AX.isChn||A.loops.isEmpty)=true:=by kernel_rfl) (dh:∀d,pk (up d)=d:=by intro d;rfl) (kH:∀d,fq (iF d)=d:=by intro d;rfl):
  zB E.P (H7 f as rs os ns rs2 os2 ns2 s pk fq):=yYo hE aG hL hf hb hn gA ju dh kH
def rV (f:Nat)(sh:Bool)(t:Ty)(r:RC)(s:Nat→List t.den→Option r.den):Nat×kC:=
 (f,fun k nm args h=>lq [.c (.dat sh t)] (.c r) (fun d=>s k d.1) (fun x=>(x,())) nm args h)
theorem fC {E:Env}(fn:Func)(A:qB){f:Nat}{sh:Bool}{t:Ty}{r:RC}{s:Nat→List t.den→Option r.den}(hE:jL E)(hL:vU E.P A 1000 0 fn.ntmps (zY fn))
  (bX:∀k,gg E A k 1000 0 fn [.c .nsl] (iD []) (jt (.c r) (fun d=>d.1))=s k []:=by intro k;kernel_rfl)
  (aG:∀k xs,gg E A k 1000 0 fn [.c (.nfl sh t xs)] (iD []) (jt (.c r) (fun d=>d.1))=s k xs:=by intro k xs;kernel_rfl)
  (hf:E.P.funcs[f]? =some fn:=by kernel_rfl) (hb:fn.body.isNone=false:=by kernel_rfl) (hn:(fn.name== "runtime.NumGoroutine")=false:=by kernel_rfl):zB E.P (rV f sh t r s):=
 yR3 (rs:=.c r) (pack:=fun x=>(x,())) (unpack:=fun d=>d.1) hE bX aG hL hf hb hn
def vK {T:Type}(z:T)(b:T→T):Nat→T
 |0=>z
 |n+1=>b (vK z b n)
theorem lp {E:Env}{A:qB}{na nt:Nat}{b:Code}(L:qA){Y:Type}(jc:qs L.outs→L.X)(c:Y→mW L.ins→Option L.X)(f:Nat→Nat→Y)(bf:Nat→Y→Y)(hE:jL E)(hL:vU E.P A 1000 na nt b)
  (hs:ZM E A na nt b L.ins L.outs jc c bf:=by intro k rec d;kernel_rfl)
  (hX:∀o R K,L.elim (1000+eL) (jc o) R K=xk (1000+eL) L.outs o K:=by intro o R K;first|rfl|(rcases o with o|o<;>rfl)|(rcases o with o|o|o<;>rfl)|(rcases o with o|o|o|o<;>rfl)|(rcases o with o|o|o|o|o<;>rfl))
  (h0:∀k d,c (f k 0) d=none:=by intros;rfl) (h1:∀k n,f k (n+1)=bf k (f k n):=by intros;rfl) (hf:(⟨L.ins,L.outs,L.X,fun k d=>c (f k k) d,L.elim⟩:qA)=L:=by rfl):zZ E.P 1000 na nt b L:=by
 rw[←hf]
 exact vHn hE hs f _ hX hL h0 h1
def ins {α:Type}(b:Nat)(xs:List α)(i:Int)(ys:List α):Option (List α):=
 bif decide (0≤i)&&decide (i≤(xs.length:Int))&&Nat.beq ys.length 1&&zU (xs.length+1) b then some (xs.take i.toNat++(ys++xs.drop i.toNat)) else none
end Go.Ab
