/- part 3 -/
import Derived.Test.YtbejmoaalcabdaaGreatGiAbC
set_option linter.unusedVariables false
set_option linter.unusedSimpArgs false
namespace Go.Ab
def zJ (f:Nat)(as:List AS)(rs:RS){X:Type}(s:Nat→AD as→Option X)(pk:X→RL rs.cells):Nat×mI:=(f,fun k nm args h=>nx as rs (s k) pk nm args h)
def yK (f:Nat)(as:List AX)(rs:RS)(os:List (List RC))(ns:Nat){X:Type}(s:Nat→XD as→Option X)(pk:X→RL (rs.cells++os.flatten)):Nat×mI:=(f,fun k nm args h=>qc as rs os ns (s k) pk nm args h)
def LH (f:Nat)(as:List AX)(rs:RS)(os:List (List RC))(ns:Nat)(rs2:RS)(os2:List (List RC))(ns2:Nat){X Y:Type}(s:Nat→XD as→Option (X⊕Y))(pk:X→RL (rs.cells++os.flatten))(g9:Y→RL (rs2.cells++os2.flatten)):Nat×mI:=(f,fun k nm args h=>sA as rs os ns rs2 os2 ns2 (s k) pk g9 nm args h)
theorem fA {E:Env}(fn:Func)(A:zW){f:Nat}{as:List AS}{rs:RS}{X:Type}{s:Nat→AD as→Option X}{pk:X→RL rs.cells}(up:RL rs.cells→X)(hE:wZ E)(hL:wG E.P A 1000 0 fn.ntmps (zS fn))
  (aR:S5 E A 0 fn as rs up s:=by intro k d;kernel_rfl)
  (hf:E.P.funcs[f]? =some fn:=by kernel_rfl) (hb:fn.body.isNone=false:=by kernel_rfl) (hn:(fn.name== "runtime.NumGoroutine")=false:=by kernel_rfl) (eQ:∀d,pk (up d)=d:=by intro d;rfl):
  zD E.P (zJ f as rs s pk):=vVl hE aR hL hf hb hn eQ
theorem fX {E:Env}(fn:Func)(A:zW)(na:Nat){f:Nat}{as:List AX}{rs:RS}{os:List (List RC)}{ns:Nat}{X:Type}{s:Nat→XD as→Option X}{pk:X→RL (rs.cells++os.flatten)}(up:RL (rs.cells++os.flatten)→X)(hE:wZ E)(hL:wG E.P A 1000 na fn.ntmps (zS fn))
  (aR:yJz E A na fn as rs os ns up s:=by intro k d;kernel_rfl)
  (hf:E.P.funcs[f]? =some fn:=by kernel_rfl) (hb:fn.body.isNone=false:=by kernel_rfl) (hn:(fn.name== "runtime.NumGoroutine")=false:=by kernel_rfl) (jy:sw as na=true:=by kernel_rfl) (lT:(!as.any AX.isChn||A.loops.isEmpty)=true:=by kernel_rfl) (eQ:∀d,pk (up d)=d:=by intro d;rfl):
  zD E.P (yK f as rs os ns s pk):=vD7 hE aR hL hf hb hn jy lT eQ
theorem fN {E:Env}(fn:Func)(A:zW)(na:Nat){f:Nat}{as:List AX}{rs rs2:RS}{os os2:List (List RC)}{ns ns2:Nat}{X Y:Type}{s:Nat→XD as→Option (X⊕Y)}{pk:X→RL (rs.cells++os.flatten)}(up:RL (rs.cells++os.flatten)→X){g9:Y→RL (rs2.cells++os2.flatten)}(kW:RL (rs2.cells++os2.flatten)→Y)(hE:wZ E)(hL:wG E.P A 1000 na fn.ntmps (zS fn))
  (aR:vAw E A na fn as rs os ns rs2 os2 ns2 up kW s:=by intro k d;kernel_rfl)
  (hf:E.P.funcs[f]? =some fn:=by kernel_rfl) (hb:fn.body.isNone=false:=by kernel_rfl) (hn:(fn.name== "runtime.NumGoroutine")=false:=by kernel_rfl) (jy:sw as na=true:=by kernel_rfl) (lT:(!as.any AX.isChn||A.loops.isEmpty)=true:=by kernel_rfl) (eQ:∀d,pk (up d)=d:=by intro d;rfl) (mL:∀d,g9 (kW d)=d:=by intro d;rfl):
  zD E.P (LH f as rs os ns rs2 os2 ns2 s pk g9):=vKe hE aR hL hf hb hn jy lT eQ mL
def uM (f:Nat)(sh:Bool)(t:Ty)(r:RC)(s:Nat→List t.den→Option r.den):Nat×mI:=
 (f,fun k nm args h=>nx [.c (.dat sh t)] (.c r) (fun d=>s k d.1) (fun x=>(x,())) nm args h)
theorem fC {E:Env}(fn:Func)(A:zW){f:Nat}{sh:Bool}{t:Ty}{r:RC}{s:Nat→List t.den→Option r.den}(hE:wZ E)(hL:wG E.P A 1000 0 fn.ntmps (zS fn))
  (cI:∀k,je E A k 1000 0 fn [.c .nsl] (kU []) (lS (.c r) (fun d=>d.1))=s k []:=by intro k;kernel_rfl)
  (aR:∀k xs,je E A k 1000 0 fn [.c (.nfl sh t xs)] (kU []) (lS (.c r) (fun d=>d.1))=s k xs:=by intro k xs;kernel_rfl)
  (hf:E.P.funcs[f]? =some fn:=by kernel_rfl) (hb:fn.body.isNone=false:=by kernel_rfl) (hn:(fn.name== "runtime.NumGoroutine")=false:=by kernel_rfl):zD E.P (uM f sh t r s):=
 vT7 (rs:=.c r) (pack:=fun x=>(x,())) (unpack:=fun d=>d.1) hE cI aR hL hf hb hn
def yC {T:Type}(z:T)(b:T→T):Nat→T
 |0=>z
 |n+1=>b (yC z b n)
theorem lp {E:Env}{A:zW}{na nt:Nat}{b:Code}(L:zU){Y:Type}(lJ:tS L.outs→L.X)(c:Y→pB L.ins→Option L.X)(f:Nat→Nat→Y)(bf:Nat→Y→Y)(hE:wZ E)(hL:wG E.P A 1000 na nt b)
  (hs:yUx E A na nt b L.ins L.outs lJ c bf:=by intro k rec d;kernel_rfl)
  (hX:∀o R K,L.elim (1000+gA) (lJ o) R K=BA (1000+gA) L.outs o K:=by intro o R K;first|rfl|(rcases o with o|o<;>rfl)|(rcases o with o|o|o<;>rfl)|(rcases o with o|o|o|o<;>rfl)|(rcases o with o|o|o|o|o<;>rfl))
  (h0:∀k d,c (f k 0) d=none:=by intros;rfl) (h1:∀k n,f k (n+1)=bf k (f k n):=by intros;rfl) (hf:(⟨L.ins,L.outs,L.X,fun k d=>c (f k k) d,L.elim⟩:zU)=L:=by rfl):zT E.P 1000 na nt b L:=by
 rw[←hf]
 exact S4 hE hs f _ hX hL h0 h1
def ins {α:Type}(b:Nat)(xs:List α)(i:Int)(ys:List α):Option (List α):=
 bif decide (0≤i)&&decide (i≤(xs.length:Int))&&Nat.beq ys.length 1&&zO (xs.length+1) b then some (xs.take i.toNat++(ys++xs.drop i.toNat)) else none
end Go.Ab
