/- part 3 -/
import Derived.Test.YtajdkmfmbgephaaGreatGiAbC
set_option linter.unusedVariables false
set_option linter.unusedSimpArgs false
namespace Go.Ab
def zM (f:Nat)(as:List AS)(rs:RS){X:Type}(s:Nat→AD as→Option X)(pk:X→RL rs.cells):Nat×kF:=(f,fun k nm args h=>ld as rs (s k) pk nm args h)
def yW (f:Nat)(as:List AX)(rs:RS)(os:List (List RC))(ns:Nat){X:Type}(s:Nat→XD as→Option X)(pk:X→RL (rs.cells++os.flatten)):Nat×kF:=(f,fun k nm args h=>nJ as rs os ns (s k) pk nm args h)
def H0 (f:Nat)(as:List AX)(rs:RS)(os:List (List RC))(ns:Nat)(rs2:RS)(os2:List (List RC))(ns2:Nat){X Y:Type}(s:Nat→XD as→Option (X⊕Y))(pk:X→RL (rs.cells++os.flatten))(fm:Y→RL (rs2.cells++os2.flatten)):Nat×kF:=(f,fun k nm args h=>o6 as rs os ns rs2 os2 ns2 (s k) pk fm nm args h)
theorem fA {E:Env}(fn:Func)(A:qF){f:Nat}{as:List AS}{rs:RS}{X:Type}{s:Nat→AD as→Option X}{pk:X→RL rs.cells}(up:RL rs.cells→X)(hE:jZ E)(hL:vT E.P A 1000 0 fn.ntmps (qA fn))
  (aI:Oa E A 0 fn as rs up s:=by intro k d;kernel_rfl)
  (hf:E.P.funcs[f]? =some fn:=by kernel_rfl) (hb:fn.body.isNone=false:=by kernel_rfl) (hn:(fn.name== "runtime.NumGoroutine")=false:=by kernel_rfl) (de:∀d,pk (up d)=d:=by intro d;rfl):
  zB E.P (zM f as rs s pk):=yUu hE aI hL hf hb hn de
theorem fX {E:Env}(fn:Func)(A:qF)(na:Nat){f:Nat}{as:List AX}{rs:RS}{os:List (List RC)}{ns:Nat}{X:Type}{s:Nat→XD as→Option X}{pk:X→RL (rs.cells++os.flatten)}(up:RL (rs.cells++os.flatten)→X)(hE:jZ E)(hL:vT E.P A 1000 na fn.ntmps (qA fn))
  (aI:ZQ E A na fn as rs os ns up s:=by intro k d;kernel_rfl)
  (hf:E.P.funcs[f]? =some fn:=by kernel_rfl) (hb:fn.body.isNone=false:=by kernel_rfl) (hn:(fn.name== "runtime.NumGoroutine")=false:=by kernel_rfl) (gy:o0 as na=true:=by kernel_rfl) (jv:(!as.any AX.isChn||A.loops.isEmpty)=true:=by kernel_rfl) (de:∀d,pk (up d)=d:=by intro d;rfl):
  zB E.P (yW f as rs os ns s pk):=yOq hE aI hL hf hb hn gy jv de
theorem fN {E:Env}(fn:Func)(A:qF)(na:Nat){f:Nat}{as:List AX}{rs rs2:RS}{os os2:List (List RC)}{ns ns2:Nat}{X Y:Type}{s:Nat→XD as→Option (X⊕Y)}{pk:X→RL (rs.cells++os.flatten)}(up:RL (rs.cells++os.flatten)→X){fm:Y→RL (rs2.cells++os2.flatten)}(iG:RL (rs2.cells++os2.flatten)→Y)(hE:jZ E)(hL:vT E.P A 1000 na fn.ntmps (qA fn))
  (aI:ZR E A na fn as rs os ns rs2 os2 ns2 up iG s:=by intro k d;kernel_rfl)
  (hf:E.P.funcs[f]? =some fn:=by kernel_rfl) (hb:fn.body.isNone=false:=by kernel_rfl) (hn:(fn.name== "runtime.NumGoroutine")=false:=by kernel_rfl) (gy:o0 as na=true:=by kernel_rfl) (jv:(!as.any AX.isChn||A.loops.isEmpty)=true:=by kernel_rfl) (de:∀d,pk (up d)=d:=by intro d;rfl) (kJ:∀d,fm (iG d)=d:=by intro d;rfl):
  zB E.P (H0 f as rs os ns rs2 os2 ns2 s pk fm):=yZf hE aI hL hf hb hn gy jv de kJ
def rS (f:Nat)(sh:Bool)(t:Ty)(r:RC)(s:Nat→List t.den→Option r.den):Nat×kF:=
 (f,fun k nm args h=>ld [.c (.dat sh t)] (.c r) (fun d=>s k d.1) (fun x=>(x,())) nm args h)
theorem fC {E:Env}(fn:Func)(A:qF){f:Nat}{sh:Bool}{t:Ty}{r:RC}{s:Nat→List t.den→Option r.den}(hE:jZ E)(hL:vT E.P A 1000 0 fn.ntmps (qA fn))
  (bX:∀k,gd E A k 1000 0 fn [.c .nsl] (iE []) (ju (.c r) (fun d=>d.1))=s k []:=by intro k;kernel_rfl)
  (aI:∀k xs,gd E A k 1000 0 fn [.c (.nfl sh t xs)] (iE []) (ju (.c r) (fun d=>d.1))=s k xs:=by intro k xs;kernel_rfl)
  (hf:E.P.funcs[f]? =some fn:=by kernel_rfl) (hb:fn.body.isNone=false:=by kernel_rfl) (hn:(fn.name== "runtime.NumGoroutine")=false:=by kernel_rfl):zB E.P (rS f sh t r s):=
 ySl (rs:=.c r) (pack:=fun x=>(x,())) (unpack:=fun d=>d.1) hE bX aI hL hf hb hn
def vF {T:Type}(z:T)(b:T→T):Nat→T
 |0=>z
 |n+1=>b (vF z b n)
theorem lp {E:Env}{A:qF}{na nt:Nat}{b:Code}(L:qE){Y:Type}(je:qn L.outs→L.X)(c:Y→nc L.ins→Option L.X)(f:Nat→Nat→Y)(bf:Nat→Y→Y)(hE:jZ E)(hL:vT E.P A 1000 na nt b)
  (hs:ZP E A na nt b L.ins L.outs je c bf:=by intro k rec d;kernel_rfl)
  (hX:∀o R K,L.elim (1000+eI) (je o) R K=xu (1000+eI) L.outs o K:=by intro o R K;first|rfl|(rcases o with o|o<;>rfl)|(rcases o with o|o|o<;>rfl)|(rcases o with o|o|o|o<;>rfl)|(rcases o with o|o|o|o|o<;>rfl))
  (h0:∀k d,c (f k 0) d=none:=by intros;rfl) (h1:∀k n,f k (n+1)=bf k (f k n):=by intros;rfl) (hf:(⟨L.ins,L.outs,L.X,fun k d=>c (f k k) d,L.elim⟩:qE)=L:=by rfl):qC E.P 1000 na nt b L:=by
 rw[←hf]
 exact vIn hE hs f _ hX hL h0 h1
def ins {α:Type}(b:Nat)(xs:List α)(i:Int)(ys:List α):Option (List α):=
 bif decide (0≤i)&&decide (i≤(xs.length:Int))&&Nat.beq ys.length 1&&zU (xs.length+1) b then some (xs.take i.toNat++(ys++xs.drop i.toNat)) else none
end Go.Ab
