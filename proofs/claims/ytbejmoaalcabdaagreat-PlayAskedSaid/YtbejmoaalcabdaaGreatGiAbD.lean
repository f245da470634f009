/- part 3 -/
import Derived.Test.YtbejmoaalcabdaaGreatGiAbC
set_option linter.unusedVariables false
set_option linter.unusedSimpArgs false
namespace Go.Ab
def zJ (f:Nat)(as:List AS)(rs:RS){X:Type}(s:Nat→AD as→Option X)(pk:X→RL rs.cells):Nat×mA:=(f,fun k nm args h=>nq as rs (s k) pk nm args h)
def yK (f:Nat)(as:List AX)(rs:RS)(os:List (List RC))(ns:Nat){X:Type}(s:Nat→XD as→Option X)(pk:X→RL (rs.cells++os.flatten)):Nat×mA:=(f,fun k nm args h=>pW as rs os ns (s k) pk nm args h)
def Lr (f:Nat)(as:List AX)(rs:RS)(os:List (List RC))(ns:Nat)(rs2:RS)(os2:List (List RC))(ns2:Nat){X Y:Type}(s:Nat→XD as→Option (X⊕Y))(pk:X→RL (rs.cells++os.flatten))(gT:Y→RL (rs2.cells++os2.flatten)):Nat×mA:=(f,fun k nm args h=>sr as rs os ns rs2 os2 ns2 (s k) pk gT nm args h)
theorem fA {E:Env}(fn:Func)(A:zZ){f:Nat}{as:List AS}{rs:RS}{X:Type}{s:Nat→AD as→Option X}{pk:X→RL rs.cells}(up:RL rs.cells→X)(hE:jA E)(hL:wE E.P A 1000 0 fn.ntmps (zS fn))
  (aT:SM E A 0 fn as rs up s:=by intro k d;kernel_rfl)
  (hf:E.P.funcs[f]? =some fn:=by kernel_rfl) (hb:fn.body.isNone=false:=by kernel_rfl) (hn:(fn.name== "runtime.NumGoroutine")=false:=by kernel_rfl) (eP:∀d,pk (up d)=d:=by intro d;rfl):
  zD E.P (zJ f as rs s pk):=vN5 hE aT hL hf hb hn eP
theorem fX {E:Env}(fn:Func)(A:zZ)(na:Nat){f:Nat}{as:List AX}{rs:RS}{os:List (List RC)}{ns:Nat}{X:Type}{s:Nat→XD as→Option X}{pk:X→RL (rs.cells++os.flatten)}(up:RL (rs.cells++os.flatten)→X)(hE:jA E)(hL:wE E.P A 1000 na fn.ntmps (zS fn))
  (aT:yGz E A na fn as rs os ns up s:=by intro k d;kernel_rfl)
  (hf:E.P.funcs[f]? =some fn:=by kernel_rfl) (hb:fn.body.isNone=false:=by kernel_rfl) (hn:(fn.name== "runtime.NumGoroutine")=false:=by kernel_rfl) (jv:so as na=true:=by kernel_rfl) (lL:(!as.any AX.isChn||A.loops.isEmpty)=true:=by kernel_rfl) (eP:∀d,pk (up d)=d:=by intro d;rfl):
  zD E.P (yK f as rs os ns s pk):=SN hE aT hL hf hb hn jv lL eP
theorem fN {E:Env}(fn:Func)(A:zZ)(na:Nat){f:Nat}{as:List AX}{rs rs2:RS}{os os2:List (List RC)}{ns ns2:Nat}{X Y:Type}{s:Nat→XD as→Option (X⊕Y)}{pk:X→RL (rs.cells++os.flatten)}(up:RL (rs.cells++os.flatten)→X){gT:Y→RL (rs2.cells++os2.flatten)}(kT:RL (rs2.cells++os2.flatten)→Y)(hE:jA E)(hL:wE E.P A 1000 na fn.ntmps (zS fn))
  (aT:yNi E A na fn as rs os ns rs2 os2 ns2 up kT s:=by intro k d;kernel_rfl)
  (hf:E.P.funcs[f]? =some fn:=by kernel_rfl) (hb:fn.body.isNone=false:=by kernel_rfl) (hn:(fn.name== "runtime.NumGoroutine")=false:=by kernel_rfl) (jv:so as na=true:=by kernel_rfl) (lL:(!as.any AX.isChn||A.loops.isEmpty)=true:=by kernel_rfl) (eP:∀d,pk (up d)=d:=by intro d;rfl) (mD:∀d,gT (kT d)=d:=by intro d;rfl):
  zD E.P (Lr f as rs os ns rs2 os2 ns2 s pk gT):=vIj hE aT hL hf hb hn jv lL eP mD
def uH (f:Nat)(sh:Bool)(t:Ty)(r:RC)(s:Nat→List t.den→Option r.den):Nat×mA:=
 (f,fun k nm args h=>nq [.c (.dat sh t)] (.c r) (fun d=>s k d.1) (fun x=>(x,())) nm args h)
theorem fC {E:Env}(fn:Func)(A:zZ){f:Nat}{sh:Bool}{t:Ty}{r:RC}{s:Nat→List t.den→Option r.den}(hE:jA E)(hL:wE E.P A 1000 0 fn.ntmps (zS fn))
  (cI:∀k,ja E A k 1000 0 fn [.c .nsl] (kR []) (lK (.c r) (fun d=>d.1))=s k []:=by intro k;kernel_rfl)
  (aT:∀k xs,ja E A k 1000 0 fn [.c (.nfl sh t xs)] (kR []) (lK (.c r) (fun d=>d.1))=s k xs:=by intro k xs;kernel_rfl)
  (hf:E.P.funcs[f]? =some fn:=by kernel_rfl) (hb:fn.body.isNone=false:=by kernel_rfl) (hn:(fn.name== "runtime.NumGoroutine")=false:=by kernel_rfl):zD E.P (uH f sh t r s):=
 vGg (rs:=.c r) (pack:=fun x=>(x,())) (unpack:=fun d=>d.1) hE cI aT hL hf hb hn
def yH {T:Type}(z:T)(b:T→T):Nat→T
 |0=>z
 |n+1=>b (yH z b n)
theorem lp {E:Env}{A:zZ}{na nt:Nat}{b:Code}(L:zV){Y:Type}(lB:tN L.outs→L.X)(c:Y→pw L.ins→Option L.X)(f:Nat→Nat→Y)(bf:Nat→Y→Y)(hE:jA E)(hL:wE E.P A 1000 na nt b)
  (hs:yQg E A na nt b L.ins L.outs lB c bf:=by intro k rec d;kernel_rfl)
  (hX:∀o R K,L.elim (1000+gw) (lB o) R K=Bp (1000+gw) L.outs o K:=by intro o R K;first|rfl|(rcases o with o|o<;>rfl)|(rcases o with o|o|o<;>rfl)|(rcases o with o|o|o|o<;>rfl)|(rcases o with o|o|o|o|o<;>rfl))
  (h0:∀k d,c (f k 0) d=none:=by intros;rfl) (h1:∀k n,f k (n+1)=bf k (f k n):=by intros;rfl) (hf:(⟨L.ins,L.outs,L.X,fun k d=>c (f k k) d,L.elim⟩:zV)=L:=by rfl):zU E.P 1000 na nt b L:=by
 rw[←hf]
 exact vPp hE hs f _ hX hL h0 h1
def ins {α:Type}(b:Nat)(xs:List α)(i:Int)(ys:List α):Option (List α):=
 bif decide (0≤i)&&decide (i≤(xs.length:Int))&&Nat.beq ys.length 1&&zO (xs.length+1) b then some (xs.take i.toNat++(ys++xs.drop i.toNat)) else none
end Go.Ab
