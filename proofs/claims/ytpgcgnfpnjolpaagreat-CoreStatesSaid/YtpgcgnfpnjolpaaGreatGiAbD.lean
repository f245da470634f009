/- part 3 -/
import Derived.Test.YtpgcgnfpnjolpaaGreatGiAbC
set_option linter.unusedVariables false
set_option linter.unusedSimpArgs false
namespace Go.Ab
abbrev sP (d i:Nat):Nat×VS:=(d,.c (.lit (.ptr (1001000+i) 0)))
abbrev sO (d i:Nat):Nat×VS:=(d,.c (.lit (.osl (1001000+i) none)))
abbrev sI (d:Nat):Nat×VS:=(d,.c (.int .i64))
abbrev oB (l:List CS):OS:=.box true l
abbrev oA (t:Ty):OS:=.arr true t
abbrev sp (l:List (Nat×VS))(o:List OS):zE:=⟨l,o,[]⟩
def zJ (f:Nat)(as:List AS)(rs:RS){X:Type}(s:Nat→AD as→Option X)(pk:X→RL rs.cells)(_:RL rs.cells→X):Nat×lY:=(f,fun k nm args h=>lW as rs (s k) pk nm args h)
def vW (f:Nat)(as:List AX)(rs:RS)(os:List (List RC))(ns:Nat){X:Type}(s:Nat→XD as→Option X)(pk:X→RL (rs.cells++os.flatten))(_:RL (rs.cells++os.flatten)→X):Nat×lY:=(f,fun k nm args h=>oc as rs os ns (s k) pk nm args h)
theorem fA {E:Env}(fn:Func)(A:zY){f:Nat}{as:List AS}{rs:RS}{X:Type}{s:Nat→AD as→Option X}{pk:X→RL rs.cells}{up:RL rs.cells→X}(hE:jA E)(hL:vZ E.P A 1000 0 fn.ntmps (zS fn))
  (aX:PN E A 0 fn as rs up s:=by intro k d;kernel_rfl)
  (hf:E.P.funcs[f]? =some fn:=by kernel_rfl) (hb:fn.body.isNone=false:=by kernel_rfl) (hn:(fn.name== "runtime.NumGoroutine")=false:=by kernel_rfl) (iu:∀d,pk (up d)=d:=by intro d;rfl):
  zD E.P (zJ f as rs s pk up):=vRi hE aX hL hf hb hn iu
theorem fX {E:Env}(fn:Func)(A:zY)(na:Nat){f:Nat}{as:List AX}{rs:RS}{os:List (List RC)}{ns:Nat}{X:Type}{s:Nat→XD as→Option X}{pk:X→RL (rs.cells++os.flatten)}{up:RL (rs.cells++os.flatten)→X}(hE:jA E)(hL:vZ E.P A 1000 na fn.ntmps (zS fn))
  (aX:yN0 E A na fn as rs os ns up s:=by intro k d;kernel_rfl)
  (hf:E.P.funcs[f]? =some fn:=by kernel_rfl) (hb:fn.body.isNone=false:=by kernel_rfl) (hn:(fn.name== "runtime.NumGoroutine")=false:=by kernel_rfl) (pN:E4 as na=true:=by kernel_rfl) (sD:(!as.any AX.isChn||A.loops.isEmpty)=true:=by kernel_rfl) (iu:∀d,pk (up d)=d:=by intro d;rfl):
  zD E.P (vW f as rs os ns s pk up):=vIt hE aX hL hf hb hn pN sD iu
def vu (f:Nat)(sh:Bool)(t:Ty)(r:RC)(s:Nat→List t.den→Option r.den):Nat×lY:=
 (f,fun k nm args h=>lW [.c (.dat sh t)] (.c r) (fun d=>s k d.1) (fun x=>(x,())) nm args h)
theorem fC {E:Env}(fn:Func)(A:zY){f:Nat}{sh:Bool}{t:Ty}{r:RC}{s:Nat→List t.den→Option r.den}(hE:jA E)(hL:vZ E.P A 1000 0 fn.ntmps (zS fn))
  (cA:∀k,iY E A k 1000 0 fn [.c .nsl] (jq []) (kz (.c r) (fun d=>d.1))=s k []:=by intro k;kernel_rfl)
  (aX:∀k xs,iY E A k 1000 0 fn [.c (.nfl sh t xs)] (jq []) (kz (.c r) (fun d=>d.1))=s k xs:=by intro k xs;kernel_rfl)
  (hf:E.P.funcs[f]? =some fn:=by kernel_rfl) (hb:fn.body.isNone=false:=by kernel_rfl) (hn:(fn.name== "runtime.NumGoroutine")=false:=by kernel_rfl):zD E.P (vu f sh t r s):=
 yUa (rs:=.c r) (pack:=fun x=>(x,())) (unpack:=fun d=>d.1) hE cA aX hL hf hb hn
def vH {T:Type}(z:T)(b:T→T):Nat→T
 |0=>z
 |n+1=>b (vH z b n)
theorem lp {E:Env}{A:zY}{na nt:Nat}{b:Code}(L:zX){Y:Type}(kj:rM L.outs→L.X)(c:Y→o9 L.ins→Option L.X)(f:Nat→Nat→Y)(bf:Nat→Y→Y)(hE:jA E)(hL:vZ E.P A 1000 na nt b)
  (hs:yRm E A na nt b L.ins L.outs kj c bf:=by intro k rec d;kernel_rfl)
  (hX:∀o R K,L.elim (1000+fD) (kj o) R K=yr (1000+fD) L.outs o K:=by intro o R K;first|rfl|(rcases o with o|o<;>rfl)|(rcases o with o|o|o<;>rfl)|(rcases o with o|o|o|o<;>rfl)|(rcases o with o|o|o|o|o<;>rfl))
  (h0:∀k d,c (f k 0) d=none:=by intros;rfl) (h1:∀k n,f k (n+1)=bf k (f k n):=by intros;rfl) (hf:(⟨L.ins,L.outs,L.X,fun k d=>c (f k k) d,L.elim⟩:zX)=L:=by rfl):zU E.P 1000 na nt b L:=by
 rw[←hf];exact vR7 hE hs f _ hX hL h0 h1
def ins {α:Type}(b:Nat)(xs:List α)(i:Int)(ys:List α):Option (List α):=
 bif decide (0≤i)&&decide (i≤(xs.length:Int))&&Nat.beq ys.length 1&&zR (xs.length+1) b then some (xs.take i.toNat++(ys++xs.drop i.toNat)) else none
end Go.Ab
