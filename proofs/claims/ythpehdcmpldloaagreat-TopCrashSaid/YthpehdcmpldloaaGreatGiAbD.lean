/- part 3 -/
import Derived.Test.YthpehdcmpldloaaGreatGiAbC
set_option linter.unusedVariables false
set_option linter.unusedSimpArgs false
namespace Go.Ab
abbrev sP (d i:Nat):Nat×VS:=(d,.c (.lit (.ptr (1001000+i) 0)))
abbrev sO (d i:Nat):Nat×VS:=(d,.c (.lit (.osl (1001000+i) none)))
abbrev sI (d:Nat):Nat×VS:=(d,.c (.int .i64))
abbrev oB (l:List CS):OS:=.box true l
abbrev oA (t:Ty):OS:=.arr true t
abbrev sp (l:List (Nat×VS))(o:List OS):zE:=⟨l,o,[]⟩
def zI (f:Nat)(as:List AS)(rs:RS){X:Type}(s:Nat→AD as→Option X)(pk:X→RL rs.cells)(_:RL rs.cells→X):Nat×nW:=(f,fun k nm args h=>o0 as rs (s k) pk nm args h)
def yH (f:Nat)(as:List AX)(rs:RS)(os:List (List RC))(ns:Nat){X:Type}(s:Nat→XD as→Option X)(pk:X→RL (rs.cells++os.flatten))(_:RL (rs.cells++os.flatten)→X):Nat×nW:=(f,fun k nm args h=>sG as rs os ns (s k) pk nm args h)
def We (f:Nat)(as:List AX)(rs:RS)(os:List (List RC))(ns:Nat)(dt:RS)(du:List (List RC))(fL:Nat){X Y:Type}(s:Nat→XD as→Option (X⊕Y))(pk:X→RL (rs.cells++os.flatten))(iP:Y→RL (dt.cells++du.flatten))(_:RL (rs.cells++os.flatten)→X)(_:RL (dt.cells++du.flatten)→Y):Nat×nW:=(f,fun k nm args h=>ui as rs os ns dt du fL (s k) pk iP nm args h)
def fA {E:Env}(fn:Func)(A:zW){f:Nat}{as:List AS}{rs:RS}{X:Type}{s:Nat→AD as→Option X}{pk:X→RL rs.cells}{up:RL rs.cells→X}(hE:jU E)(hL:wR E.P A 1000 0 fn.ntmps (zR fn))
  (aN:Wb E A 0 fn as rs up s:=by intro k d;kernel_rfl)
  (hf:E.P.funcs[f]? =some fn:=by kernel_rfl) (hb:fn.body.isNone=false:=by kernel_rfl) (hn:(fn.name== "runtime.NumGoroutine")=false:=by kernel_rfl) (fJ:∀d,pk (up d)=d:=by intro d;rfl):
  zD E.P (zI f as rs s pk up):=Wc hE aN hL hf hb hn fJ
def fX {E:Env}(fn:Func)(A:zW)(na:Nat){f:Nat}{as:List AX}{rs:RS}{os:List (List RC)}{ns:Nat}{X:Type}{s:Nat→XD as→Option X}{pk:X→RL (rs.cells++os.flatten)}{up:RL (rs.cells++os.flatten)→X}(hE:jU E)(hL:wR E.P A 1000 na fn.ntmps (zR fn))
  (aN:vAs E A na fn as rs os ns up s:=by intro k d;kernel_rfl)
  (hf:E.P.funcs[f]? =some fn:=by kernel_rfl) (hb:fn.body.isNone=false:=by kernel_rfl) (hn:(fn.name== "runtime.NumGoroutine")=false:=by kernel_rfl) (kP:uh as na=true:=by kernel_rfl) (nj:(!as.any AX.isChn||A.loops.isEmpty)=true:=by kernel_rfl) (fJ:∀d,pk (up d)=d:=by intro d;rfl):
  zD E.P (yH f as rs os ns s pk up):=vTg hE aN hL hf hb hn kP nj fJ
def fN {E:Env}(fn:Func)(A:zW)(na:Nat){f:Nat}{as:List AX}{rs dt:RS}{os du:List (List RC)}{ns fL:Nat}{X Y:Type}{s:Nat→XD as→Option (X⊕Y)}{pk:X→RL (rs.cells++os.flatten)}{up:RL (rs.cells++os.flatten)→X}{iP:Y→RL (dt.cells++du.flatten)}{lD:RL (dt.cells++du.flatten)→Y}(hE:jU E)(hL:wR E.P A 1000 na fn.ntmps (zR fn))
  (aN:yIi E A na fn as rs os ns dt du fL up lD s:=by intro k d;kernel_rfl)
  (hf:E.P.funcs[f]? =some fn:=by kernel_rfl) (hb:fn.body.isNone=false:=by kernel_rfl) (hn:(fn.name== "runtime.NumGoroutine")=false:=by kernel_rfl) (kP:uh as na=true:=by kernel_rfl) (nj:(!as.any AX.isChn||A.loops.isEmpty)=true:=by kernel_rfl) (fJ:∀d,pk (up d)=d:=by intro d;rfl) (oc:∀d,iP (lD d)=d:=by intro d;rfl):
  zD E.P (We f as rs os ns dt du fL s pk iP up lD):=vWo hE aN hL hf hb hn kP nj fJ oc
def xm (f:Nat)(sh:Bool)(t:Ty)(r:RC)(s:Nat→List t.den→Option r.den):Nat×nW:=
 (f,fun k nm args h=>o0 [.c (.dat sh t)] (.c r) (fun d=>s k d.1) (fun x=>(x,())) nm args h)
def fC {E:Env}(fn:Func)(A:zW){f:Nat}{sh:Bool}{t:Ty}{r:RC}{s:Nat→List t.den→Option r.den}(hE:jU E)(hL:wR E.P A 1000 0 fn.ntmps (zR fn))
  (cM:∀k,ky E A k 1000 0 fn [.c .nsl] (lZ []) (ng (.c r) (fun d=>d.1))=s k []:=by intro k;kernel_rfl)
  (aN:∀k xs,ky E A k 1000 0 fn [.c (.nfl sh t xs)] (lZ []) (ng (.c r) (fun d=>d.1))=s k xs:=by intro k xs;kernel_rfl)
  (hf:E.P.funcs[f]? =some fn:=by kernel_rfl) (hb:fn.body.isNone=false:=by kernel_rfl) (hn:(fn.name== "runtime.NumGoroutine")=false:=by kernel_rfl):zD E.P (xm f sh t r s):=
 vLr (rs:=.c r) (pack:=fun x=>(x,())) (unpack:=fun d=>d.1) hE cM aN hL hf hb hn
def yD {T:Type}(z:T)(b:T→T):Nat→T
 |0=>z
 |n+1=>b (yD z b n)
def lp {E:Env}{A:zW}{na nt:Nat}{b:Code}(L:zT){Y:Type}(mQ:vy L.outs→L.X)(c:Y→rT L.ins→Option L.X)(f:Nat→Nat→Y)(bf:Nat→Y→Y)(hE:jU E)(hL:wR E.P A 1000 na nt b)
  (hs:yRh E A na nt b L.ins L.outs mQ c bf:=by intro k rec d;kernel_rfl)
  (hX:∀o R K,L.elim (1000+iw) (mQ o) R K=Du (1000+iw) L.outs o K:=by intro o R K;first|rfl|(rcases o with o|o<;>rfl)|(rcases o with o|o|o<;>rfl)|(rcases o with o|o|o|o<;>rfl)|(rcases o with o|o|o|o|o<;>rfl))
  (h0:∀k d,c (f k 0) d=none:=by intros;rfl) (h1:∀k n,f k (n+1)=bf k (f k n):=by intros;rfl) (hf:(⟨L.ins,L.outs,L.X,fun k d=>c (f k k) d,L.elim⟩:zT)=L:=by rfl):zS E.P 1000 na nt b L:=by
 rw[←hf];exact Wa hE hs f _ hX hL h0 h1
def ins {α:Type}(b:Nat)(xs:List α)(i:Int)(ys:List α):Option (List α):=
 bif decide (0≤i)&&decide (i≤(xs.length:Int))&&Nat.beq ys.length 1&&zL (xs.length+1) b then some (xs.take i.toNat++(ys++xs.drop i.toNat)) else none
end Go.Ab
