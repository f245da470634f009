/- part 3 -/
import Derived.Test.YthpehdcmpldloaaGreatGiAbC
set_option linter.unusedVariables false
set_option linter.unusedSimpArgs false
namespace Go.Ab
abbrev sP (d i:Nat):Nat×VS:=(d,.c (.lit (.ptr (1001000+i) 0)))
abbrev sO (d i:Nat):Nat×VS:=(d,.c (.lit (.osl (1001000+i) none)))
abbrev sI (d:Nat):Nat×VS:=(d,.c (.int .i64))
abbrev oB (l:List CS):OS:=.box true l
abbrev oA (t:Ty):OS:=.arr true t
abbrev sp (l:List (Nat×VS))(o:List OS):zE:=⟨l,o,[]⟩
def zJ (f:Nat)(as:List AS)(rs:RS){X:Type}(s:Nat→AD as→Option X)(pk:X→RL rs.cells)(_:RL rs.cells→X):Nat×nK:=(f,fun k nm args h=>oN as rs (s k) pk nm args h)
def yU (f:Nat)(as:List AX)(rs:RS)(os:List (List RC))(ns:Nat){X:Type}(s:Nat→XD as→Option X)(pk:X→RL (rs.cells++os.flatten))(_:RL (rs.cells++os.flatten)→X):Nat×nK:=(f,fun k nm args h=>sv as rs os ns (s k) pk nm args h)
def Nr (f:Nat)(as:List AX)(rs:RS)(os:List (List RC))(ns:Nat)(dr:RS)(dt:List (List RC))(fl:Nat){X Y:Type}(s:Nat→XD as→Option (X⊕Y))(pk:X→RL (rs.cells++os.flatten))(iG:Y→RL (dr.cells++dt.flatten))(_:RL (rs.cells++os.flatten)→X)(_:RL (dr.cells++dt.flatten)→Y):Nat×nK:=(f,fun k nm args h=>ue as rs os ns dr dt fl (s k) pk iG nm args h)
theorem fA {E:Env}(fn:Func)(A:qA){f:Nat}{as:List AS}{rs:RS}{X:Type}{s:Nat→AD as→Option X}{pk:X→RL rs.cells}{up:RL rs.cells→X}(hE:jG E)(hL:wK E.P A 1000 0 fn.ntmps (zS fn))
  (aQ:Um E A 0 fn as rs up s:=by intro k d;kernel_rfl)
  (hf:E.P.funcs[f]? =some fn:=by kernel_rfl) (hb:fn.body.isNone=false:=by kernel_rfl) (hn:(fn.name== "runtime.NumGoroutine")=false:=by kernel_rfl) (fk:∀d,pk (up d)=d:=by intro d;rfl):
  zD E.P (zJ f as rs s pk up):=vO5 hE aQ hL hf hb hn fk
theorem fX {E:Env}(fn:Func)(A:qA)(na:Nat){f:Nat}{as:List AX}{rs:RS}{os:List (List RC)}{ns:Nat}{X:Type}{s:Nat→XD as→Option X}{pk:X→RL (rs.cells++os.flatten)}{up:RL (rs.cells++os.flatten)→X}(hE:jG E)(hL:wK E.P A 1000 na fn.ntmps (zS fn))
  (aQ:yTn E A na fn as rs os ns up s:=by intro k d;kernel_rfl)
  (hf:E.P.funcs[f]? =some fn:=by kernel_rfl) (hb:fn.body.isNone=false:=by kernel_rfl) (hn:(fn.name== "runtime.NumGoroutine")=false:=by kernel_rfl) (kN:ud as na=true:=by kernel_rfl) (mQ:(!as.any AX.isChn||A.loops.isEmpty)=true:=by kernel_rfl) (fk:∀d,pk (up d)=d:=by intro d;rfl):
  zD E.P (yU f as rs os ns s pk up):=vYk hE aQ hL hf hb hn kN mQ fk
theorem fN {E:Env}(fn:Func)(A:qA)(na:Nat){f:Nat}{as:List AX}{rs dr:RS}{os dt:List (List RC)}{ns fl:Nat}{X Y:Type}{s:Nat→XD as→Option (X⊕Y)}{pk:X→RL (rs.cells++os.flatten)}{up:RL (rs.cells++os.flatten)→X}{iG:Y→RL (dr.cells++dt.flatten)}{lq:RL (dr.cells++dt.flatten)→Y}(hE:jG E)(hL:wK E.P A 1000 na fn.ntmps (zS fn))
  (aQ:yAb E A na fn as rs os ns dr dt fl up lq s:=by intro k d;kernel_rfl)
  (hf:E.P.funcs[f]? =some fn:=by kernel_rfl) (hb:fn.body.isNone=false:=by kernel_rfl) (hn:(fn.name== "runtime.NumGoroutine")=false:=by kernel_rfl) (kN:ud as na=true:=by kernel_rfl) (mQ:(!as.any AX.isChn||A.loops.isEmpty)=true:=by kernel_rfl) (fk:∀d,pk (up d)=d:=by intro d;rfl) (nO:∀d,iG (lq d)=d:=by intro d;rfl):
  zD E.P (Nr f as rs os ns dr dt fl s pk iG up lq):=vF1 hE aQ hL hf hb hn kN mQ fk nO
def xh (f:Nat)(sh:Bool)(t:Ty)(r:RC)(s:Nat→List t.den→Option r.den):Nat×nK:=
 (f,fun k nm args h=>oN [.c (.dat sh t)] (.c r) (fun d=>s k d.1) (fun x=>(x,())) nm args h)
theorem fC {E:Env}(fn:Func)(A:qA){f:Nat}{sh:Bool}{t:Ty}{r:RC}{s:Nat→List t.den→Option r.den}(hE:jG E)(hL:wK E.P A 1000 0 fn.ntmps (zS fn))
  (cM:∀k,ku E A k 1000 0 fn [.c .nsl] (lS []) (mN (.c r) (fun d=>d.1))=s k []:=by intro k;kernel_rfl)
  (aQ:∀k xs,ku E A k 1000 0 fn [.c (.nfl sh t xs)] (lS []) (mN (.c r) (fun d=>d.1))=s k xs:=by intro k xs;kernel_rfl)
  (hf:E.P.funcs[f]? =some fn:=by kernel_rfl) (hb:fn.body.isNone=false:=by kernel_rfl) (hn:(fn.name== "runtime.NumGoroutine")=false:=by kernel_rfl):zD E.P (xh f sh t r s):=
 vSw (rs:=.c r) (pack:=fun x=>(x,())) (unpack:=fun d=>d.1) hE cM aQ hL hf hb hn
def yR {T:Type}(z:T)(b:T→T):Nat→T
 |0=>z
 |n+1=>b (yR z b n)
theorem lp {E:Env}{A:qA}{na nt:Nat}{b:Code}(L:zW){Y:Type}(mC:vr L.outs→L.X)(c:Y→rJ L.ins→Option L.X)(f:Nat→Nat→Y)(bf:Nat→Y→Y)(hE:jG E)(hL:wK E.P A 1000 na nt b)
  (hs:yXq E A na nt b L.ins L.outs mC c bf:=by intro k rec d;kernel_rfl)
  (hX:∀o R K,L.elim (1000+g9) (mC o) R K=CN (1000+g9) L.outs o K:=by intro o R K;first|rfl|(rcases o with o|o<;>rfl)|(rcases o with o|o|o<;>rfl)|(rcases o with o|o|o|o<;>rfl)|(rcases o with o|o|o|o|o<;>rfl))
  (h0:∀k d,c (f k 0) d=none:=by intros;rfl) (h1:∀k n,f k (n+1)=bf k (f k n):=by intros;rfl) (hf:(⟨L.ins,L.outs,L.X,fun k d=>c (f k k) d,L.elim⟩:zW)=L:=by rfl):zU E.P 1000 na nt b L:=by
 rw[←hf];exact vLf hE hs f _ hX hL h0 h1
def ins {α:Type}(b:Nat)(xs:List α)(i:Int)(ys:List α):Option (List α):=
 bif decide (0≤i)&&decide (i≤(xs.length:Int))&&Nat.beq ys.length 1&&zQ (xs.length+1) b then some (xs.take i.toNat++(ys++xs.drop i.toNat)) else none
end Go.Ab
