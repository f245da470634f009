/- part 3 -/
import Derived.Test.YthpehdcmpldloaaGreatGiAbC
set_option linter.unusedVariables false
set_option linter.unusedSimpArgs false
namespace Go.Ab
abbrev sP (d i:Nat):Nat×VS:=(d,.c (.lit (.ptr (1001000+i) 0)))
abbrev sO (d i:Nat):Nat×VS:=(d,.c (.lit (.osl (1001000+i) none)))
abbrev sI (d:Nat):Nat×VS:=(d,.c (.int .i64))
abbrev oB (l:List CS):OS:=.box true l
abbrev oA (t:Ty):OS:=.arr true t
abbrev sp (l:List (Nat×VS))(o:List OS):zE:=⟨l,o,[]⟩
def zI (f:Nat)(as:List AS)(rs:RS){X:Type}(s:Nat→AD as→Option X)(pk:X→RL rs.cells)(_:RL rs.cells→X):Nat×nZ:=(f,fun k nm args h=>pb as rs (s k) pk nm args h)
def yH (f:Nat)(as:List AX)(rs:RS)(os:List (List RC))(ns:Nat){X:Type}(s:Nat→XD as→Option X)(pk:X→RL (rs.cells++os.flatten))(_:RL (rs.cells++os.flatten)→X):Nat×nZ:=(f,fun k nm args h=>sK as rs os ns (s k) pk nm args h)
def V8 (f:Nat)(as:List AX)(rs:RS)(os:List (List RC))(ns:Nat)(dw:RS)(dy:List (List RC))(fP:Nat){X Y:Type}(s:Nat→XD as→Option (X⊕Y))(pk:X→RL (rs.cells++os.flatten))(iS:Y→RL (dw.cells++dy.flatten))(_:RL (rs.cells++os.flatten)→X)(_:RL (dw.cells++dy.flatten)→Y):Nat×nZ:=(f,fun k nm args h=>um as rs os ns dw dy fP (s k) pk iS nm args h)
theorem fA {E:Env}(fn:Func)(A:zW){f:Nat}{as:List AS}{rs:RS}{X:Type}{s:Nat→AD as→Option X}{pk:X→RL rs.cells}{up:RL rs.cells→X}(hE:jS E)(hL:wO E.P A 1000 0 fn.ntmps (zR fn))
  (aO:V5 E A 0 fn as rs up s:=by intro k d;kernel_rfl)
  (hf:E.P.funcs[f]? =some fn:=by kernel_rfl) (hb:fn.body.isNone=false:=by kernel_rfl) (hn:(fn.name== "runtime.NumGoroutine")=false:=by kernel_rfl) (fM:∀d,pk (up d)=d:=by intro d;rfl):
  zD E.P (zI f as rs s pk up):=vX8 hE aO hL hf hb hn fM
theorem fX {E:Env}(fn:Func)(A:zW)(na:Nat){f:Nat}{as:List AX}{rs:RS}{os:List (List RC)}{ns:Nat}{X:Type}{s:Nat→XD as→Option X}{pk:X→RL (rs.cells++os.flatten)}{up:RL (rs.cells++os.flatten)→X}(hE:jS E)(hL:wO E.P A 1000 na fn.ntmps (zR fn))
  (aO:yM9 E A na fn as rs os ns up s:=by intro k d;kernel_rfl)
  (hf:E.P.funcs[f]? =some fn:=by kernel_rfl) (hb:fn.body.isNone=false:=by kernel_rfl) (hn:(fn.name== "runtime.NumGoroutine")=false:=by kernel_rfl) (kS:uk as na=true:=by kernel_rfl) (np:(!as.any AX.isChn||A.loops.isEmpty)=true:=by kernel_rfl) (fM:∀d,pk (up d)=d:=by intro d;rfl):
  zD E.P (yH f as rs os ns s pk up):=vIb hE aO hL hf hb hn kS np fM
theorem fN {E:Env}(fn:Func)(A:zW)(na:Nat){f:Nat}{as:List AX}{rs dw:RS}{os dy:List (List RC)}{ns fP:Nat}{X Y:Type}{s:Nat→XD as→Option (X⊕Y)}{pk:X→RL (rs.cells++os.flatten)}{up:RL (rs.cells++os.flatten)→X}{iS:Y→RL (dw.cells++dy.flatten)}{lG:RL (dw.cells++dy.flatten)→Y}(hE:jS E)(hL:wO E.P A 1000 na fn.ntmps (zR fn))
  (aO:yYu E A na fn as rs os ns dw dy fP up lG s:=by intro k d;kernel_rfl)
  (hf:E.P.funcs[f]? =some fn:=by kernel_rfl) (hb:fn.body.isNone=false:=by kernel_rfl) (hn:(fn.name== "runtime.NumGoroutine")=false:=by kernel_rfl) (kS:uk as na=true:=by kernel_rfl) (np:(!as.any AX.isChn||A.loops.isEmpty)=true:=by kernel_rfl) (fM:∀d,pk (up d)=d:=by intro d;rfl) (og:∀d,iS (lG d)=d:=by intro d;rfl):
  zD E.P (V8 f as rs os ns dw dy fP s pk iS up lG):=vXd hE aO hL hf hb hn kS np fM og
def xp (f:Nat)(sh:Bool)(t:Ty)(r:RC)(s:Nat→List t.den→Option r.den):Nat×nZ:=
 (f,fun k nm args h=>pb [.c (.dat sh t)] (.c r) (fun d=>s k d.1) (fun x=>(x,())) nm args h)
theorem fC {E:Env}(fn:Func)(A:zW){f:Nat}{sh:Bool}{t:Ty}{r:RC}{s:Nat→List t.den→Option r.den}(hE:jS E)(hL:wO E.P A 1000 0 fn.ntmps (zR fn))
  (cP:∀k,kB E A k 1000 0 fn [.c .nsl] (mb []) (nj (.c r) (fun d=>d.1))=s k []:=by intro k;kernel_rfl)
  (aO:∀k xs,kB E A k 1000 0 fn [.c (.nfl sh t xs)] (mb []) (nj (.c r) (fun d=>d.1))=s k xs:=by intro k xs;kernel_rfl)
  (hf:E.P.funcs[f]? =some fn:=by kernel_rfl) (hb:fn.body.isNone=false:=by kernel_rfl) (hn:(fn.name== "runtime.NumGoroutine")=false:=by kernel_rfl):zD E.P (xp f sh t r s):=
 V6 (rs:=.c r) (pack:=fun x=>(x,())) (unpack:=fun d=>d.1) hE cP aO hL hf hb hn
def yD {T:Type}(z:T)(b:T→T):Nat→T
 |0=>z
 |n+1=>b (yD z b n)
theorem lp {E:Env}{A:zW}{na nt:Nat}{b:Code}(L:zT){Y:Type}(mT:wa L.outs→L.X)(c:Y→rW L.ins→Option L.X)(f:Nat→Nat→Y)(bf:Nat→Y→Y)(hE:jS E)(hL:wO E.P A 1000 na nt b)
  (hs:yE7 E A na nt b L.ins L.outs mT c bf:=by intro k rec d;kernel_rfl)
  (hX:∀o R K,L.elim (1000+iz) (mT o) R K=Dx (1000+iz) L.outs o K:=by intro o R K;first|rfl|(rcases o with o|o<;>rfl)|(rcases o with o|o|o<;>rfl)|(rcases o with o|o|o|o<;>rfl)|(rcases o with o|o|o|o|o<;>rfl))
  (h0:∀k d,c (f k 0) d=none:=by intros;rfl) (h1:∀k n,f k (n+1)=bf k (f k n):=by intros;rfl) (hf:(⟨L.ins,L.outs,L.X,fun k d=>c (f k k) d,L.elim⟩:zT)=L:=by rfl):zS E.P 1000 na nt b L:=by
 rw[←hf];exact vK1 hE hs f _ hX hL h0 h1
def ins {α:Type}(b:Nat)(xs:List α)(i:Int)(ys:List α):Option (List α):=
 bif decide (0≤i)&&decide (i≤(xs.length:Int))&&Nat.beq ys.length 1&&zL (xs.length+1) b then some (xs.take i.toNat++(ys++xs.drop i.toNat)) else none
end Go.Ab
