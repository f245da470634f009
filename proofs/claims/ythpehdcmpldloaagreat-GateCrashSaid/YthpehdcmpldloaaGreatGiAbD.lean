/- part 3 -/
import Derived.Test.YthpehdcmpldloaaGreatGiAbC
set_option linter.unusedVariables false
set_option linter.unusedSimpArgs false
namespace Go.Ab
abbrev sP (d i:Nat):Nat×VS:=(d,.c (.lit (.ptr (1001000+i) 0)))
abbrev sO (d i:Nat):Nat×VS:=(d,.c (.lit (.osl (1001000+i) none)))
abbrev sI (d:Nat):Nat×VS:=(d,.c (.int .i64))
abbrev oB (l:List CS):OS:=.box true l
abbrev oA (t:Ty):OS:=.arr true t
abbrev sp (l:List (Nat×VS))(o:List OS):zE:=⟨l,o,[]⟩
def zJ (f:Nat)(as:List AS)(rs:RS){X:Type}(s:Nat→AD as→Option X)(pk:X→RL rs.cells)(_:RL rs.cells→X):Nat×nB:=(f,fun k nm args h=>oE as rs (s k) pk nm args h)
def yM (f:Nat)(as:List AX)(rs:RS)(os:List (List RC))(ns:Nat){X:Type}(s:Nat→XD as→Option X)(pk:X→RL (rs.cells++os.flatten))(_:RL (rs.cells++os.flatten)→X):Nat×nB:=(f,fun k nm args h=>rW as rs os ns (s k) pk nm args h)
def MY (f:Nat)(as:List AX)(rs:RS)(os:List (List RC))(ns:Nat)(dq:RS)(dr:List (List RC))(fk:Nat){X Y:Type}(s:Nat→XD as→Option (X⊕Y))(pk:X→RL (rs.cells++os.flatten))(iH:Y→RL (dq.cells++dr.flatten))(_:RL (rs.cells++os.flatten)→X)(_:RL (dq.cells++dr.flatten)→Y):Nat×nB:=(f,fun k nm args h=>tR as rs os ns dq dr fk (s k) pk iH nm args h)
theorem fA {E:Env}(fn:Func)(A:zZ){f:Nat}{as:List AS}{rs:RS}{X:Type}{s:Nat→AD as→Option X}{pk:X→RL rs.cells}{up:RL rs.cells→X}(hE:jL E)(hL:wF E.P A 1000 0 fn.ntmps (zS fn))
  (aQ:TZ E A 0 fn as rs up s:=by intro k d;kernel_rfl)
  (hf:E.P.funcs[f]? =some fn:=by kernel_rfl) (hb:fn.body.isNone=false:=by kernel_rfl) (hn:(fn.name== "runtime.NumGoroutine")=false:=by kernel_rfl) (fi:∀d,pk (up d)=d:=by intro d;rfl):
  zD E.P (zJ f as rs s pk up):=vVm hE aQ hL hf hb hn fi
theorem fX {E:Env}(fn:Func)(A:zZ)(na:Nat){f:Nat}{as:List AX}{rs:RS}{os:List (List RC)}{ns:Nat}{X:Type}{s:Nat→XD as→Option X}{pk:X→RL (rs.cells++os.flatten)}{up:RL (rs.cells++os.flatten)→X}(hE:jL E)(hL:wF E.P A 1000 na fn.ntmps (zS fn))
  (aQ:yZe E A na fn as rs os ns up s:=by intro k d;kernel_rfl)
  (hf:E.P.funcs[f]? =some fn:=by kernel_rfl) (hb:fn.body.isNone=false:=by kernel_rfl) (hn:(fn.name== "runtime.NumGoroutine")=false:=by kernel_rfl) (kH:tQ as na=true:=by kernel_rfl) (mJ:(!as.any AX.isChn||A.loops.isEmpty)=true:=by kernel_rfl) (fi:∀d,pk (up d)=d:=by intro d;rfl):
  zD E.P (yM f as rs os ns s pk up):=vN2 hE aQ hL hf hb hn kH mJ fi
theorem fN {E:Env}(fn:Func)(A:zZ)(na:Nat){f:Nat}{as:List AX}{rs dq:RS}{os dr:List (List RC)}{ns fk:Nat}{X Y:Type}{s:Nat→XD as→Option (X⊕Y)}{pk:X→RL (rs.cells++os.flatten)}{up:RL (rs.cells++os.flatten)→X}{iH:Y→RL (dq.cells++dr.flatten)}{ld:RL (dq.cells++dr.flatten)→Y}(hE:jL E)(hL:wF E.P A 1000 na fn.ntmps (zS fn))
  (aQ:yK8 E A na fn as rs os ns dq dr fk up ld s:=by intro k d;kernel_rfl)
  (hf:E.P.funcs[f]? =some fn:=by kernel_rfl) (hb:fn.body.isNone=false:=by kernel_rfl) (hn:(fn.name== "runtime.NumGoroutine")=false:=by kernel_rfl) (kH:tQ as na=true:=by kernel_rfl) (mJ:(!as.any AX.isChn||A.loops.isEmpty)=true:=by kernel_rfl) (fi:∀d,pk (up d)=d:=by intro d;rfl) (nG:∀d,iH (ld d)=d:=by intro d;rfl):
  zD E.P (MY f as rs os ns dq dr fk s pk iH up ld):=vP2 hE aQ hL hf hb hn kH mJ fi nG
def wv (f:Nat)(sh:Bool)(t:Ty)(r:RC)(s:Nat→List t.den→Option r.den):Nat×nB:=
 (f,fun k nm args h=>oE [.c (.dat sh t)] (.c r) (fun d=>s k d.1) (fun x=>(x,())) nm args h)
theorem fC {E:Env}(fn:Func)(A:zZ){f:Nat}{sh:Bool}{t:Ty}{r:RC}{s:Nat→List t.den→Option r.den}(hE:jL E)(hL:wF E.P A 1000 0 fn.ntmps (zS fn))
  (cJ:∀k,kk E A k 1000 0 fn [.c .nsl] (lJ []) (mH (.c r) (fun d=>d.1))=s k []:=by intro k;kernel_rfl)
  (aQ:∀k xs,kk E A k 1000 0 fn [.c (.nfl sh t xs)] (lJ []) (mH (.c r) (fun d=>d.1))=s k xs:=by intro k xs;kernel_rfl)
  (hf:E.P.funcs[f]? =some fn:=by kernel_rfl) (hb:fn.body.isNone=false:=by kernel_rfl) (hn:(fn.name== "runtime.NumGoroutine")=false:=by kernel_rfl):zD E.P (wv f sh t r s):=
 vPc (rs:=.c r) (pack:=fun x=>(x,())) (unpack:=fun d=>d.1) hE cJ aQ hL hf hb hn
def yS {T:Type}(z:T)(b:T→T):Nat→T
 |0=>z
 |n+1=>b (yS z b n)
theorem lp {E:Env}{A:zZ}{na nt:Nat}{b:Code}(L:zV){Y:Type}(mv:uZ L.outs→L.X)(c:Y→tc L.ins→Option L.X)(f:Nat→Nat→Y)(bf:Nat→Y→Y)(hE:jL E)(hL:wF E.P A 1000 na nt b)
  (hs:yPc E A na nt b L.ins L.outs mv c bf:=by intro k rec d;kernel_rfl)
  (hX:∀o R K,L.elim (1000+hZ) (mv o) R K=Cy (1000+hZ) L.outs o K:=by intro o R K;first|rfl|(rcases o with o|o<;>rfl)|(rcases o with o|o|o<;>rfl)|(rcases o with o|o|o|o<;>rfl)|(rcases o with o|o|o|o|o<;>rfl))
  (h0:∀k d,c (f k 0) d=none:=by intros;rfl) (h1:∀k n,f k (n+1)=bf k (f k n):=by intros;rfl) (hf:(⟨L.ins,L.outs,L.X,fun k d=>c (f k k) d,L.elim⟩:zV)=L:=by rfl):zU E.P 1000 na nt b L:=by
 rw[←hf];exact vXx hE hs f _ hX hL h0 h1
def ins {α:Type}(b:Nat)(xs:List α)(i:Int)(ys:List α):Option (List α):=
 bif decide (0≤i)&&decide (i≤(xs.length:Int))&&Nat.beq ys.length 1&&zP (xs.length+1) b then some (xs.take i.toNat++(ys++xs.drop i.toNat)) else none
end Go.Ab
