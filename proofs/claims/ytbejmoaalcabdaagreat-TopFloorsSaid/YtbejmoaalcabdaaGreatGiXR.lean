/- part 44 -/
import Derived.Test.YtbejmoaalcabdaaGreatGiXS
import Derived.Test.YtbejmoaalcabdaaGreatGiAbE
import Derived.Test.YtbejmoaalcabdaaGreatProg
set_option linter.unusedVariables false
set_option maxRecDepth 100000
set_option maxHeartbeats 4000000
namespace Go.Ab.Gi
open Go.RowKit Go.Lib Go.Proofs Go.Proofs.Tryz
noncomputable section
theorem zK : prog.follows .mixedOrders = true := by kernel_rfl
def R1q : Nat × zH := zP 8 [.c (.int .i64)] (.agg [.int .i64, .own wE, .int .i64, .int .i64, .int .i64]) (fun k d => zP2 k d.1) (fun x => (jQ x ()))
theorem F1q : zI prog R1q := fA (rs := .agg [.int .i64, .own wE, .int .i64, .int .i64, .int .i64]) f8 ⟨[], [], [], true⟩ (fun d => (vE d)) (zL (l := []) zK trivial) zJ
def R2q : Nat × zH := zX9 26 [.c (.p (.int .i64))] (.c (.link 0)) [vF] 1 (.c (.nilp)) [] 0 (fun k d => qRu k d.1) (fun x => ((), (zAj x ()))) (fun x => ((), ()))
theorem F2q : zI prog R2q := fN (rs := .c (.link 0)) (os := [vF]) (ns := 1) (rs2 := .c (.nilp)) (os2 := []) (ns2 := 0) f26 ⟨[], [], [], true⟩ 0 (fun d => (zJw d)) (fun d => ()) (zL (l := []) zK trivial) zJ
def R3q : Nat × zH := zP 97 [.c (.int .i64), .c (.int .i64), .c (.int .i64)] (.c (.bool)) (fun k d => zEr k d.1 d.2.1 d.2.2.1) (fun x => (x, ()))
theorem F3q : zI prog R3q := fA (rs := .c (.bool)) f97 ⟨[], [], [], true⟩ (fun d => d.1) (zL (l := []) zK trivial) zJ
def R4q : Nat × zH := zP 96 [.agg [.int .i64, .int .i64]] (.c (.bool)) (fun k d => yDi k (d.1, d.2.1)) (fun x => (x, ()))
theorem F4q : zI prog R4q := fA (rs := .c (.bool)) f96 ⟨[], [], [], true⟩ (fun d => d.1) (zL (l := [R3q]) zK ⟨F3q, trivial⟩) zJ
def qWu : zM := ⟨[(0, .c (.dat false wE)), (1, .c (.lit (.fn 96 []))), (7, .c (.int .i64)), (8, .c (.int .i64))], [], []⟩
def yIt : zM := ⟨[], [], []⟩
def yCm : zM := ⟨[(4, .c (.int .i64))], [], []⟩
def yLz (f : qCl) (d : qWu.den) : Option (Unit ⊕ Int) := f d.1.1.1 d.1.2.2.1.1 d.1.2.2.2.1.1
def qLp : qG := ⟨[qWu], [(.exit 0, yIt), (.ret, yCm)], (Unit ⊕ Int), fun k d => yLz (qK3 k k) d, fun b x _ K => match x with | .inl x => K (.exit 0) (zU b yIt ((), ())) | .inr x => K .ret (zU b yCm (((x, ()), ()), ()))⟩
def E5q : qA := ⟨prog, fun _ => false, qP [R4q]⟩
def A5q : zZ := ⟨[], [(2, qLp)], [], true⟩
theorem B5q : qM E5q := zL zK ⟨F4q, trivial⟩
theorem yRz : qF prog 1000 0 19 (qC (qD f150) 0) qLp := lp (A := A5q) qLp (fun d => match d with | .inl d => .inl () | .inr d => .inr d.1.1.1) yLz qK3 yKz B5q zJ
def R5q : Nat × zH := zP 150 [.c (.dat false wE), .c (.fn 96)] (.c (.int .i64)) (fun k d => yDu k d.1) (fun x => (x, ()))
theorem F5q : zI prog R5q := fA (rs := .c (.int .i64)) f150 A5q (fun d => d.1) B5q (loops1 yRz)
def R6q : Nat × zH := zP 98 [.c (.dat false wE), .c (.fn 96)] (.c (.bool)) (fun k d => yB8 k d.1) (fun x => (x, ()))
theorem F6q : zI prog R6q := fA (rs := .c (.bool)) f98 ⟨[], [], [], true⟩ (fun d => d.1) (zL (l := [R5q]) zK ⟨F5q, trivial⟩) zJ
def R7q : Nat × zH := zP 54 [.agg zC5] (.c (.bool)) (fun k d => qMb k (vE d)) (fun x => (x, ()))
theorem F7q : zI prog R7q := fA (rs := .c (.bool)) f54 ⟨[], [], [], true⟩ (fun d => d.1) (zL (l := [R3q, R6q]) zK ⟨F3q, F6q, trivial⟩) zJ
def R8q : Nat × zH := zP 214 [.c (.int .i64)] (.c (.bool)) (fun k d => zVf k d.1) (fun x => (x, ()))
theorem F8q : zI prog R8q := fA (rs := .c (.bool)) f214 ⟨[], [], [], true⟩ (fun d => d.1) (zL (l := []) zK trivial) zJ
def R9q : Nat × zH := zGo 215 false (.int .u8) (.own (.int .u8)) qFt
theorem F9q : zI prog R9q := fC f215 ⟨[], [], [], true⟩ (zL (l := []) zK trivial) zJ
def yKn : Nat × zH := zP 152 [.ptr zQt, .c (.int .i64)] (.c (.own (.int .u8))) (fun k d => qPz k (wX d) d.2.2.2.2.2.2.2.2.2.2.1) (fun x => (x, ()))
theorem yX6 : zI prog yKn := fA (rs := .c (.own (.int .u8))) f152 ⟨[], [], [], true⟩ (fun d => d.1) (zL (l := [R8q, R9q]) zK ⟨F8q, F9q, trivial⟩) zJ
def qSi : zM := ⟨[(0, .c (.dat false (.int .u8))), (2, .c (.lit (.osl 1001000 none)))], [.arr true (.sl (.int .u8))], [(2, none, (.sl (.int .u8)), false)]⟩
def qPc : zM := ⟨[(0, .c (.dat false (.int .u8))), (2, .c (.lit (.osl 1001000 none)))], [.arr true (.sl (.int .u8))], []⟩
def qP4 (f : qBr) (d : qSi.den) : Option zT3 := f d.1.1.1 d.2.1
def qIz : qG := ⟨[qSi], [(.exit 0, qPc)], zT3, fun k d => qP4 (qIk k k) d, fun b x _ K => K (.exit 0) (zU b qPc (((x.1, ()), (), ()), (x.2, ())))⟩
def yPn : qA := ⟨prog, fun _ => false, qP []⟩
def qW9 : zZ := ⟨[], [(1, qIz)], [], true⟩
theorem yH0 : qM yPn := zL zK trivial
theorem vBn : qF prog 1000 0 43 (qC (qD f151) 0) qIz := lp (A := qW9) qIz (fun d => (d.1.1.1, d.2.1)) qP4 qIk yFe yH0 zJ
def qFp : Nat × zH := zP 151 [.c (.dat false (.int .u8))] (.tup [(false, [.own (.sl (.int .u8))]), (false, qQ)]) (fun k d => qB9 k d.1) (fun x => (x.1, x.2, ()))
theorem qUv : zI prog qFp := fA (rs := .tup [(false, [.own (.sl (.int .u8))]), (false, qQ)]) f151 qW9 (fun d => (d.1, d.2.1)) yH0 (loops1 vBn)
def yC7 : zM := ⟨[(0, .c (.dat false (.int .u8))), (4, .c (.lit (.osl 1001000 none))), (5, .c (.int .u64)), (16, .c (.dat false (.int .u8))), (17, .c (.int .i64)), (18, .c (.int .i64))], [.arr true (.int .i64)], []⟩
def qWv : zM := ⟨[(0, .c (.dat false (.int .u8))), (4, .c (.lit (.osl 1001000 none))), (5, .c (.int .u64))], [.arr true (.int .i64)], []⟩
def qY3 (f : qMu) (d : yC7.den) : Option zWm := f d.1.1.1 d.1.2.2.1.1 d.1.2.2.2.1.1 d.1.2.2.2.2.1.1 d.1.2.2.2.2.2.1.1 d.2.1
def qDq : qG := ⟨[yC7], [(.exit 2, qWv)], zWm, fun k d => qY3 (qFr k k) d, fun b x _ K => K (.exit 2) (zU b qWv (((x.1, ()), (), (x.2.1, ()), ()), (x.2.2, ())))⟩
def yAy : zM := ⟨[(0, .c (.dat false (.int .u8))), (4, .c (.lit (.osl 1001000 none)))], [.arr true (.int .i64)], [(4, none, (.int .i64), false)]⟩
def yDj : zM := ⟨[(4, .c (.lit (.osl 1001000 none)))], [.arr true (.int .i64)], []⟩
def qZg (f : List Int → List Int → Option (List Int)) (d : yAy.den) : Option (List Int) := f d.1.1.1 d.2.1
def qC2 : qG := ⟨[yAy], [(.exit 0, yDj)], (List Int), fun k d => qZg (qJz k k) d, fun b x _ K => K (.exit 0) (zU b yDj (((), ()), (x, ())))⟩
def yUd : qA := ⟨prog, fun _ => false, qP []⟩
def zZr : zZ := ⟨[], [(7, qDq), (4, qC2)], [], true⟩
theorem qGa : qM yUd := zL zK trivial
theorem yS6 : qF prog 1000 0 36 (qC (qC (qD f66) 0) 0) qDq := lp (A := zZr) qDq (fun d => (d.1.1.1, d.1.2.2.1.1, d.2.1)) qY3 qFr qX3 qGa zJ
theorem vBw : qF prog 1000 0 36 (qC (qD f66) 0) qC2 := lp (A := zZr) qC2 (fun d => d.2.1) qZg qJz qXp qGa (loops1 yS6)
def zKr : Nat × zH := zP 66 [.c (.dat false (.int .u8))] (.tup [(false, zEu), (false, qQ)]) (fun k d => zHj k d.1) (fun x => (x.1, x.2, ()))
theorem zQd : zI prog zKr := fA (rs := .tup [(false, zEu), (false, qQ)]) f66 zZr (fun d => (d.1, d.2.1)) qGa (loops1 vBw)
def qTk : Nat × zH := zP 99 [.ptr zQt, .c (.int .i64)] (.tup [(false, qQ), (false, zCw), (false, zEp)]) (fun k d => zYv k (wX d) d.2.2.2.2.2.2.2.2.2.2.1) (fun x => (x.1, x.2.1, x.2.2, ()))
theorem vB8 : zI prog qTk := fA (rs := .tup [(false, qQ), (false, zCw), (false, zEp)]) f99 ⟨[], [], [], true⟩ (fun d => (d.1, d.2.1, d.2.2.1)) (zL (l := [yKn, qFp, zKr]) zK ⟨yX6, qUv, zQd, trivial⟩) zJ
def zUn : Nat × zH := zP 55 [.ptr zQt] (.tup [(false, qQ), (false, qQ), (false, zCw), (false, zEp), (false, [.bool])]) (fun k d => qEs k (wX d)) (fun x => (jQ x ()))
theorem qZ5 : zI prog zUn := fA (rs := .tup [(false, qQ), (false, qQ), (false, zCw), (false, zEp), (false, [.bool])]) f55 ⟨[], [], [(2, 3)], true⟩ (fun d => (d.1, d.2.1, d.2.2.1, d.2.2.2.1, d.2.2.2.2.1)) (zL (l := [qTk]) zK ⟨vB8, trivial⟩) (zLb (n := 1) (by kernel_rfl) fun i hi => match i, hi with | 0, _ => .inr ⟨by kernel_rfl, zJ⟩ | i + 1, hi => absurd hi (by omega))
def zPh : Nat × zH := zP 87 [.c (.int .i64)] (.c (.bool)) (fun k d => zQg k d.1) (fun x => (x, ()))
theorem qYv : zI prog zPh := fA (rs := .c (.bool)) f87 ⟨[], [], [], false⟩ (fun d => d.1) (zL (l := []) zK trivial) zJ
def qWk : zM := ⟨[(1, .c (.int .i64)), (5, .c (.lit (.osl 1001000 none))), (13, .c (.int .i64)), (14, .c (.int .i64))], [.arr true (.int .i64)], []⟩
def yIk : zM := ⟨[(5, .c (.lit (.osl 1001000 none)))], [.arr true (.int .i64)], []⟩
def qVc (f : qGq) (d : qWk.den) : Option (List Int) := f d.1.1.1 d.1.2.2.1.1 d.1.2.2.2.1.1 d.2.1
def qK2 : qG := ⟨[qWk], [(.exit 0, yIk)], (List Int), fun k d => qVc (zN5 k k) d, fun b x _ K => K (.exit 0) (zU b yIk (((), ()), (x, ())))⟩
def yRd : qA := ⟨prog, fun _ => false, qP [zPh]⟩
def yKk : zZ := ⟨[], [(5, qK2)], [], false⟩
theorem qQ8 : qM yRd := zL zK ⟨qYv, trivial⟩
theorem vCi : qF prog 1000 0 23 (qC (qD f51) 0) qK2 := lp (A := yKk) qK2 (fun d => d.2.1) qVc zN5 zJj qQ8 zJ
def zI3 : Nat × zH := zP 51 [.c (.int .i64), .c (.int .i64)] (.c (.own (.int .i64))) (fun k d => zH6 k d.1 d.2.1) (fun x => (x, ()))
theorem qGe : zI prog zI3 := fA (rs := .c (.own (.int .i64))) f51 yKk (fun d => d.1) qQ8 (loops1 vCi)
def yIp : zM := ⟨[(0, .c (.int .i64)), (1, .c (.int .i64)), (5, .c (.lit (.osl 1001000 none))), (13, .c (.int .i64)), (14, .c (.int .i64))], [.mat], []⟩
def qO1 : zM := ⟨[(5, .c (.lit (.osl 1001000 none)))], [.mat], []⟩
def yD7 (f : qNv) (d : yIp.den) : Option (List (List Int)) := f d.1.1.1 d.1.2.1.1 d.1.2.2.2.1.1 d.1.2.2.2.2.1.1 d.2.1
def qKb : qG := ⟨[yIp], [(.exit 0, qO1)], (List (List Int)), fun k d => yD7 (zRr k k) d, fun b x _ K => K (.exit 0) (zU b qO1 (((), ()), (x, ())))⟩
def yWg : qA := ⟨prog, fun _ => false, qP [zPh, zI3]⟩
def yLt : zZ := ⟨[11], [(5, qKb)], [], false⟩
theorem qY6 : qM yWg := zL zK ⟨qYv, qGe, trivial⟩
theorem vHo : qF prog 1000 0 25 (qC (qD f50) 0) qKb := lp (A := yLt) qKb (fun d => d.2.1) yD7 zRr zMg qY6 zJ
def zQb : Nat × zH := zP 50 [.c (.int .i64), .c (.int .i64)] (.c (.mat)) (fun k d => zJ1 k d.1 d.2.1) (fun x => (x, ()))
theorem yB3 : zI prog zQb := fA (rs := .c (.mat)) f50 yLt (fun d => d.1) qY6 (loops1 vHo)
def yDq : zM := ⟨[(1, .c (.lit (.ptr 1001000 0))), (2, .c (.lit (.ptr 1001001 0))), (3, .c (.int .i64)), (4, .c (.lit (.ptr 1001002 0))), (20, .c (.dat false wE)), (21, .c (.int .i64)), (22, .c (.int .i64))], [.box true zGb, .box true zB5, .box true yN2, .arr true qZ, .mat, .arr true (.int .i64), .mat, .arr true (.int .i64)], [(4, some 5, (.int .i64), false)]⟩
def qVj : zM := ⟨[(1, .c (.lit (.ptr 1001000 0))), (2, .c (.lit (.ptr 1001001 0))), (3, .c (.int .i64)), (4, .c (.lit (.ptr 1001002 0)))], [.box true zGb, .box true zB5, .box true yN2, .arr true qZ, .mat, .arr true (.int .i64), .mat, .arr true (.int .i64)], []⟩
def qXn (f : qNo) (d : yDq.den) : Option zTw := f d.1.2.2.1.1 d.1.2.2.2.2.1.1 d.1.2.2.2.2.2.1.1 d.1.2.2.2.2.2.2.1.1 (vE d.2.1) (d.2.2.1.1, d.2.2.1.2.1, d.2.2.1.2.2.1) (d.2.2.2.1.1, d.2.2.2.1.2.1, d.2.2.2.1.2.2.1) d.2.2.2.2.1 d.2.2.2.2.2.1 d.2.2.2.2.2.2.1 d.2.2.2.2.2.2.2.1 d.2.2.2.2.2.2.2.2.1
def zUs : qG := ⟨[yDq], [(.exit 0, qVj)], zTw, fun k d => qXn (qOw k k) d, fun b x _ K => K (.exit 0) (zU b qVj (((), (), (x.1, ()), (), ()), ((jQ x.2.1 ()), (x.2.2.1.1, x.2.2.1.2.1, x.2.2.1.2.2, ()), (x.2.2.2.1.1, x.2.2.2.1.2.1, x.2.2.2.1.2.2, ()), x.2.2.2.2.1, x.2.2.2.2.2.1, x.2.2.2.2.2.2.1, x.2.2.2.2.2.2.2.1, x.2.2.2.2.2.2.2.2, ())))⟩
def yCb : zM := ⟨[(1, .c (.lit (.ptr 1001000 0))), (2, .c (.lit (.ptr 1001001 0))), (4, .c (.lit (.ptr 1001002 0))), (34, .c (.int .i64)), (35, .c (.int .i64))], [.box true zGb, .box true zB5, .box true [.int .i64, .lit (.osl 1001003 none), .lit (.osl 1001004 none), .lit (.osl 1001005 none), .lit (.osl 1001006 none), .lit (.osl 1001007 none), .lit (.osl 1001008 none), .lit .nsl, .lit .nsl, .int .i64, .bool], .arr true qZ, .mat, .arr true (.int .i64), .mat, .arr true (.int .i64), .mat], [(4, some 6, (.sl (.int .i64)), true)]⟩
def yNj : zM := ⟨[(2, .c (.lit (.ptr 1001000 0))), (4, .c (.lit (.ptr 1001001 0)))], [.box true zB5, .box true [.int .i64, .lit (.osl 1001002 none), .lit (.osl 1001003 none), .lit (.osl 1001004 none), .lit (.osl 1001005 none), .lit (.osl 1001006 none), .lit (.osl 1001007 none), .lit .nsl, .lit .nsl, .int .i64, .bool], .arr true qZ, .mat, .arr true (.int .i64), .mat, .arr true (.int .i64), .mat], []⟩
def yH8 (f : qKu) (d : yCb.den) : Option zTj := f d.1.2.2.2.1.1 d.1.2.2.2.2.1.1 (vE d.2.1) (d.2.2.1.1, d.2.2.1.2.1, d.2.2.1.2.2.1) (d.2.2.2.1.1, d.2.2.2.1.2.1, d.2.2.2.1.2.2.1) d.2.2.2.2.1 d.2.2.2.2.2.1 d.2.2.2.2.2.2.1 d.2.2.2.2.2.2.2.1 d.2.2.2.2.2.2.2.2.1 d.2.2.2.2.2.2.2.2.2.1
def zYs : qG := ⟨[yCb], [(.exit 2, yNj)], zTj, fun k d => yH8 (qEk k k) d, fun b x _ K => K (.exit 2) (zU b yNj (((), (), ()), ((x.1.1, x.1.2.1, x.1.2.2, ()), (x.2.1.1, x.2.1.2.1, x.2.1.2.2, ()), x.2.2.1, x.2.2.2.1, x.2.2.2.2.1, x.2.2.2.2.2.1, x.2.2.2.2.2.2.1, x.2.2.2.2.2.2.2, ())))⟩
def vGe : qA := ⟨prog, fun _ => false, qP [zQb, zI3]⟩
def qB4 : zZ := ⟨[43, 44], [(4, zUs), (9, zYs)], [], true⟩
theorem qOt : qM vGe := zL zK ⟨yB3, qGe, trivial⟩
theorem yYq : qF prog 1000 0 48 (qC (qD f20) 0) zUs := lp (A := qB4) zUs (fun d => (d.1.2.2.1.1, (vE d.2.1), (d.2.2.1.1, d.2.2.1.2.1, d.2.2.1.2.2.1), (d.2.2.2.1.1, d.2.2.2.1.2.1, d.2.2.2.1.2.2.1), d.2.2.2.2.1, d.2.2.2.2.2.1, d.2.2.2.2.2.2.1, d.2.2.2.2.2.2.2.1, d.2.2.2.2.2.2.2.2.1)) qXn qOw yMo qOt zJ
theorem vCd : qF prog 1000 0 48 (qC (qD f20) 1) zYs := lp (A := qB4) zYs (fun d => ((d.2.1.1, d.2.1.2.1, d.2.1.2.2.1), (d.2.2.1.1, d.2.2.1.2.1, d.2.2.1.2.2.1), d.2.2.2.1, d.2.2.2.2.1, d.2.2.2.2.2.1, d.2.2.2.2.2.2.1, d.2.2.2.2.2.2.2.1, d.2.2.2.2.2.2.2.2.1)) yH8 qEk yG2 qOt zJ
def zIy : Nat × zH := zP 20 [.agg zC5] (.agg zX5) (fun k d => zDd k (vE d)) (fun x => (wH x ()))
theorem qHk : zI prog zIy := fA (rs := .agg zX5) f20 qB4 (fun d => (yZ d)) qOt (zF6 (n := 2) (by kernel_rfl) fun i hi => match i, hi with | 0, _ => ⟨zUs, by kernel_rfl, yYq⟩ | 1, _ => ⟨zYs, by kernel_rfl, vCd⟩ | i + 2, hi => absurd hi (by omega))
def qN9 : Nat × zH := zP 101 [.c (.bool)] (.c (.int .i64)) (fun k d => qW3 k d.1) (fun x => (x, ()))
theorem yZh : zI prog qN9 := fA (rs := .c (.int .i64)) f101 ⟨[], [], [], true⟩ (fun d => d.1) (zL (l := []) zK trivial) zJ
def qRe : zM := ⟨[(3, .c (.lit (.osl 1001000 none))), (5, .c (.int .i64)), (6, .c (.int .i64)), (11, .c (.dat false (.int .i64))), (12, .c (.int .i64)), (13, .c (.int .i64))], [.arr true (.int .u8)], []⟩
def qUf : zM := ⟨[(3, .c (.lit (.osl 1001000 none))), (11, .c (.dat false (.int .i64))), (12, .c (.int .i64)), (13, .c (.int .i64))], [.arr true (.int .u8)], []⟩
def qU8 (f : qMe) (d : qRe.den) : Option zXc := f d.1.2.1.1 d.1.2.2.1.1 d.1.2.2.2.1.1 d.1.2.2.2.2.1.1 d.1.2.2.2.2.2.1.1 d.2.1
def qE6 : qG := ⟨[qRe], [(.exit 2, qUf)], zXc, fun k d => qU8 (qB2 k k) d, fun b x _ K => K (.exit 2) (zU b qUf (((), (x.1, ()), (x.2.1, ()), (x.2.2.1, ()), ()), (x.2.2.2, ())))⟩
def qZ4 : zM := ⟨[(3, .c (.lit (.osl 1001000 none))), (11, .c (.dat false (.int .i64))), (12, .c (.int .i64)), (13, .c (.int .i64))], [.arr true (.int .u8)], []⟩
def qY1 : zM := ⟨[(3, .c (.lit (.osl 1001000 none)))], [.arr true (.int .u8)], []⟩
def yNo (f : qOv) (d : qZ4.den) : Option (List Int) := f d.1.2.1.1 d.1.2.2.1.1 d.1.2.2.2.1.1 d.2.1
def qDp : qG := ⟨[qZ4], [(.exit 0, qY1)], (List Int), fun k d => yNo (qDj k k) d, fun b x _ K => K (.exit 0) (zU b qY1 (((), ()), (x, ())))⟩
def yU2 : qA := ⟨prog, fun _ => false, qP []⟩
def qGd : zZ := ⟨[], [(6, qE6), (3, qDp)], [], true⟩
theorem qFg : qM yU2 := zL zK trivial
theorem yX5 : qF prog 1000 0 31 (qC (qC (qD f115) 0) 0) qE6 := lp (A := qGd) qE6 (fun d => (d.1.2.1.1, d.1.2.2.1.1, d.1.2.2.2.1.1, d.2.1)) qU8 qB2 yCs qFg zJ
theorem yZ0 : qF prog 1000 0 31 (qC (qD f115) 0) qDp := lp (A := qGd) qDp (fun d => d.2.1) yNo qDj qS6 qFg (loops1 yX5)
def zNy : Nat × zH := zP 115 [.c (.dat false (.int .i64))] (.c (.own (.int .u8))) (fun k d => zMf k d.1) (fun x => (x, ()))
theorem zXn : zI prog zNy := fA (rs := .c (.own (.int .u8))) f115 qGd (fun d => d.1) qFg (loops1 yZ0)
def qM7 : Nat × zH := zP 158 [.c (.dat false (.int .i64))] (.c (.own (.int .u8))) (fun k d => yKw k d.1) (fun x => (x, ()))
theorem yRf : zI prog qM7 := fA (rs := .c (.own (.int .u8))) f158 ⟨[], [], [], true⟩ (fun d => d.1) (zL (l := [zNy]) zK ⟨zXn, trivial⟩) zJ
def yKh : zM := ⟨[(3, .c (.lit (.osl 1001000 none))), (6, .c (.dat false (.sl (.int .i64)))), (7, .c (.int .i64)), (8, .c (.int .i64))], [.arr true (.int .u8)], [(3, none, (.int .u8), false)]⟩
def qT1 : zM := ⟨[(3, .c (.lit (.osl 1001000 none)))], [.arr true (.int .u8)], []⟩
def yBg (f : qFe) (d : yKh.den) : Option (List Int) := f d.1.2.1.1 d.1.2.2.1.1 d.1.2.2.2.1.1 d.2.1
def qD2 : qG := ⟨[yKh], [(.exit 0, qT1)], (List Int), fun k d => yBg (qD3 k k) d, fun b x _ K => K (.exit 0) (zU b qT1 (((), ()), (x, ())))⟩
def yTm : qA := ⟨prog, fun _ => false, qP [qM7]⟩
def yBp : zZ := ⟨[], [(3, qD2)], [], true⟩
theorem yAz : qM yTm := zL zK ⟨yRf, trivial⟩
theorem vA6 : qF prog 1000 0 18 (qC (qD f102) 0) qD2 := lp (A := yBp) qD2 (fun d => d.2.1) yBg qD3 yN5 yAz zJ
def qJc : Nat × zH := zP 102 [.c (.dat false (.sl (.int .i64)))] (.c (.own (.int .u8))) (fun k d => yI9 k d.1) (fun x => (x, ()))
theorem yXd : zI prog qJc := fA (rs := .c (.own (.int .u8))) f102 yBp (fun d => d.1) yAz (loops1 vA6)
def yGl : zM := ⟨[(1, .c (.lit (.ptr 1001000 0))), (3, .c (.lit (.ptr 1001001 0))), (4, .c (.lit (.osl 1001002 none))), (39, .c (.dat true qZ)), (40, .c (.int .i64)), (41, .c (.int .i64))], [.box true zAo, .box true zAh, .arr true (.sl (.int .i64))], []⟩
def qO7 : zM := ⟨[(1, .c (.lit (.ptr 1001000 0))), (3, .c (.lit (.ptr 1001001 0))), (4, .c (.lit (.osl 1001002 none)))], [.box true zAo, .box true zAh, .arr true (.sl (.int .i64))], []⟩
def qV0 (f : qD6) (d : yGl.den) : Option zUp := f d.1.2.2.2.1.1 d.1.2.2.2.2.1.1 d.1.2.2.2.2.2.1.1 (yZ d.2.1) (wS d.2.2.1) d.2.2.2.1
def zX3 : qG := ⟨[yGl], [(.exit 0, qO7)], zUp, fun k d => qV0 (qGf k k) d, fun b x _ K => K (.exit 0) (zU b qO7 (((), (), (), ()), ((wH x.1 ()), (jC x.2.1 ()), x.2.2, ())))⟩
def yG6 : zM := ⟨[(1, .c (.lit (.ptr 1001000 0))), (4, .c (.lit (.osl 1001001 none))), (79, .c (.dat true zN)), (80, .c (.int .i64)), (81, .c (.int .i64))], [.box true zAo, .arr true (.sl (.int .i64))], []⟩
def qYq : zM := ⟨[(1, .c (.lit (.ptr 1001000 0))), (4, .c (.lit (.osl 1001001 none)))], [.box true zAo, .arr true (.sl (.int .i64))], []⟩
def yI0 (f : qFb) (d : yG6.den) : Option zT1 := f d.1.2.2.1.1 d.1.2.2.2.1.1 d.1.2.2.2.2.1.1 (yZ d.2.1) d.2.2.1
def zXu : qG := ⟨[yG6], [(.exit 2, qYq)], zT1, fun k d => yI0 (qLa k k) d, fun b x _ K => K (.exit 2) (zU b qYq (((), (), ()), ((wH x.1 ()), x.2, ())))⟩
def vBk : qA := ⟨prog, fun _ => false, qP [qN9, qJc]⟩
def qJi : zZ := ⟨[], [(4, zX3), (14, zXu)], [], true⟩
theorem qBo : qM vBk := zL zK ⟨yZh, yXd, trivial⟩
theorem yOy : qF prog 1000 0 110 (qC (qD f57) 0) zX3 := lp (A := qJi) zX3 (fun d => ((yZ d.2.1), (wS d.2.2.1), d.2.2.2.1)) qV0 qGf qWw qBo zJ
theorem yQm : qF prog 1000 0 110 (qC (qD f57) 1) zXu := lp (A := qJi) zXu (fun d => ((yZ d.2.1), d.2.2.1)) yI0 qLa yJ7 qBo zJ
def zFw : Nat × zH := zP 57 [.agg zLs] (.c (.own (.int .u8))) (fun k d => zCx k (yZ d)) (fun x => (x, ()))
theorem zRs : zI prog zFw := fA (rs := .c (.own (.int .u8))) f57 qJi (fun d => d.1) qBo (zF6 (n := 2) (by kernel_rfl) fun i hi => match i, hi with | 0, _ => ⟨zX3, by kernel_rfl, yOy⟩ | 1, _ => ⟨zXu, by kernel_rfl, yQm⟩ | i + 2, hi => absurd hi (by omega))
def qKa : Nat × zH := zP 153 [.c (.dat false (.int .u8))] (.tup [(false, [.own (.int .u8)]), (false, [.bool])]) (fun k d => qMg k d.1) (fun x => (x.1, x.2, ()))
theorem yE5 : zI prog qKa := fA (rs := .tup [(false, [.own (.int .u8)]), (false, [.bool])]) f153 ⟨[], [], [], true⟩ (fun d => (d.1, d.2.1)) (zL (l := []) zK trivial) zJ
def yIq : Nat × zH := zP 154 [.ptr zQt] (.c (.int .i64)) (fun k d => yL7 k (wX d)) (fun x => (x, ()))
theorem yRs : zI prog yIq := fA (rs := .c (.int .i64)) f154 ⟨[], [], [], true⟩ (fun d => d.1) (zL (l := []) zK trivial) zJ
def zVp : Nat × zH := zP 216 [.ptr zQt] (.c (.bool)) (fun k d => zW4 k (wX d)) (fun x => (x, ()))
theorem qNc : zI prog zVp := fA (rs := .c (.bool)) f216 ⟨[], [], [], true⟩ (fun d => d.1) (zL (l := []) zK trivial) zJ
def zVl : Nat × zH := yS 217 [.ptr true zBe] (.c (.bool)) [vF] 0 (fun k d => zO3 k (wX d)) (fun x => (x.1, (zAj x.2 ())))
theorem qGg : zI prog zVl := fX (rs := .c (.bool)) (os := [vF]) (ns := 0) f217 ⟨[], [], [(6, 3)], true⟩ 1 (fun d => (d.1, (zJw d))) (zL (l := []) zK trivial) (zLb (n := 1) (by kernel_rfl) fun i hi => match i, hi with | 0, _ => .inr ⟨by kernel_rfl, zJ⟩ | i + 1, hi => absurd hi (by omega))
def qUr : Nat × zH := yS 155 [.ptr true zBe, .c (.p (.int .i64))] (.c (.int .i64)) [vF] 0 (fun k d => qVw k (wX d) d.2.2.2.2.2.2.2.2.2.2.1) (fun x => (x.1, (zAj x.2 ())))
theorem yQi : zI prog qUr := fX (rs := .c (.int .i64)) (os := [vF]) (ns := 0) f155 ⟨[], [], [], true⟩ 1 (fun d => (d.1, (zJw d))) (zL (l := [zVp, R8q, zVl]) zK ⟨qNc, F8q, qGg, trivial⟩) zJ
def qLt : Nat × zH := yS 156 [.ptr true zBe, .c (.p (.int .i64)), .c (.p (.dat false (.int .u8)))] (.c (.int .i64)) [vF] 0 (fun k d => qJm k (wX d) d.2.2.2.2.2.2.2.2.2.2.1 d.2.2.2.2.2.2.2.2.2.2.2.1) (fun x => (x.1, (zAj x.2 ())))
theorem qZk : zI prog qLt := fX (rs := .c (.int .i64)) (os := [vF]) (ns := 0) f156 ⟨[], [], [], true⟩ 1 (fun d => (d.1, (zJw d))) (zL (l := [zVp, R8q, zVl]) zK ⟨qNc, F8q, qGg, trivial⟩) zJ
def qOb : Nat × zH := yS 157 [.ptr true zBe] (.c (.int .i64)) [vF] 0 (fun k d => qN5 k (wX d)) (fun x => (x.1, (zAj x.2 ())))
theorem yJo : zI prog qOb := fX (rs := .c (.int .i64)) (os := [vF]) (ns := 0) f157 ⟨[], [], [(4, 3)], true⟩ 1 (fun d => (d.1, (zJw d))) (zL (l := [zVp, zVl]) zK ⟨qNc, qGg, trivial⟩) (zLb (n := 1) (by kernel_rfl) fun i hi => match i, hi with | 0, _ => .inr ⟨by kernel_rfl, zJ⟩ | i + 1, hi => absurd hi (by omega))
def zZ9 : Nat × zH := yS 100 [.ptr true zBe, .c (.p (.int .i64)), .c (.p (.int .i64)), .c (.p (.dat false (.int .u8)))] (.c (.int .i64)) [vF] 0 (fun k d => qF4 k (wX d) d.2.2.2.2.2.2.2.2.2.2.1 d.2.2.2.2.2.2.2.2.2.2.2.1 d.2.2.2.2.2.2.2.2.2.2.2.2.1) (fun x => (x.1, (zAj x.2 ())))
theorem yBx : zI prog zZ9 := fX (rs := .c (.int .i64)) (os := [vF]) (ns := 0) f100 ⟨[], [], [], true⟩ 1 (fun d => (d.1, (zJw d))) (zL (l := [zNy, qKa, yIq, qUr, qLt, qOb]) zK ⟨zXn, yE5, yRs, yQi, qZk, yJo, trivial⟩) zJ
def qEe : Nat × zH := zX9 56 [.ptr true zBe, .c (.p (.dat false (.int .u8)))] (.tup [(false, [.link 1]), (false, zCw), (false, zEp), (false, qQ)]) [vF, zXy] 1 (.tup [(false, [.nilp]), (false, [.own (.int .u8)]), (false, [.own (.sl (.int .u8))]), (false, qQ)]) [vF] 0 (fun k d => qQk k (wX d) d.2.2.2.2.2.2.2.2.2.2.1) (fun x => ((), x.1, x.2.1, x.2.2.1, (zAj x.2.2.2.1 ((), (jC x.2.2.2.2 ()))))) (fun x => ((), x.1, x.2.1, x.2.2.1, (zAj x.2.2.2 ())))
theorem vHv : zI prog qEe := fN (rs := .tup [(false, [.link 1]), (false, zCw), (false, zEp), (false, qQ)]) (os := [vF, zXy]) (ns := 1) (rs2 := .tup [(false, [.nilp]), (false, [.own (.int .u8)]), (false, [.own (.sl (.int .u8))]), (false, qQ)]) (os2 := [vF]) (ns2 := 0) f56 ⟨[], [], [], true⟩ 1 (fun d => (d.2.1, d.2.2.1, d.2.2.2.1, (qZ3 d), (vCq d))) (fun d => (d.2.1, d.2.2.1, d.2.2.2.1, (qZ3 d))) (zL (l := [zUn, zZ9]) zK ⟨qZ5, yBx, trivial⟩) zJ
def yNn : Nat × zH := zP 159 [.c (.dat true (.int .u8))] (.tup [(false, zEu), (false, zCw), (false, [.bool])]) (fun k d => qUd k d.1) (fun x => (x.1, x.2.1, x.2.2, ()))
theorem vF2 : zI prog yNn := fA (rs := .tup [(false, zEu), (false, zCw), (false, [.bool])]) f159 ⟨[], [], [], true⟩ (fun d => (d.1, d.2.1, d.2.2.1)) (zL (l := [zKr]) zK ⟨zQd, trivial⟩) zJ
def zLo : Nat × zH := yS 105 [.ptr true [.p (.dat true (.int .u8)), .p (.bool)]] (.c (.own (.int .i64))) [[.fro (.int .u8), .bool]] 0 (fun k d => zMl k (d.1, d.2.1)) (fun x => (x.1, x.2.1, x.2.2, ()))
theorem qIa : zI prog zLo := fX (rs := .c (.own (.int .i64))) (os := [[.fro (.int .u8), .bool]]) (ns := 0) f105 ⟨[], [], [], true⟩ 1 (fun d => (d.1, (d.2.1, d.2.2.1))) (zL (l := [yNn]) zK ⟨vF2, trivial⟩) zJ
def qH4 : Nat × zH := yS 103 [.ptr true [.p (.dat true (.int .u8)), .p (.bool)], .c (.p (.int .i64))] (.c (.own (.int .i64))) [[.fro (.int .u8), .bool]] 0 (fun k d => zVs k (d.1, d.2.1) d.2.2.1) (fun x => (x.1, x.2.1, x.2.2, ()))
theorem vHe : zI prog qH4 := fX (rs := .c (.own (.int .i64))) (os := [[.fro (.int .u8), .bool]]) (ns := 0) f103 ⟨[], [], [], true⟩ 1 (fun d => (d.1, (d.2.1, d.2.2.1))) (zL (l := [zLo]) zK ⟨qIa, trivial⟩) zJ
def yDx : zM := ⟨[(0, .c (.lit (.ptr 1001000 0))), (1, .c (.int .i64)), (5, .c (.lit (.osl 1001001 none)))], [.box true zL1, .arr true (.sl (.int .i64))], [(5, none, (.sl (.int .i64)), false)]⟩
def qQ0 : zM := ⟨[(0, .c (.lit (.ptr 1001000 0))), (5, .c (.lit (.osl 1001001 none)))], [.box true zL1, .arr true (.sl (.int .i64))], []⟩
def qQo (f : qBp) (d : yDx.den) : Option zSw := f d.1.2.1.1 (d.2.1.1, d.2.1.2.1) d.2.2.1
def qHv : qG := ⟨[yDx], [(.exit 0, qQ0)], zSw, fun k d => qQo (qEh k k) d, fun b x _ K => K (.exit 0) (zU b qQ0 (((), (), ()), ((x.1.1, x.1.2, ()), x.2, ())))⟩
def yTh : qA := ⟨prog, fun _ => false, qP [zLo]⟩
def yBr : zZ := ⟨[], [(2, qHv)], [], true⟩
theorem qQe : qM yTh := zL zK ⟨qIa, trivial⟩
theorem yVv : qF prog 1000 1 23 (qC (qD f104) 0) qHv := lp (A := yBr) qHv (fun d => ((d.2.1.1, d.2.1.2.1), d.2.2.1)) qQo qEh yFb qQe zJ
def qCh : Nat × zH := yS 104 [.ptr true [.p (.dat true (.int .u8)), .p (.bool)], .c (.p (.int .i64))] (.c (.own (.sl (.int .i64)))) [[.fro (.int .u8), .bool]] 0 (fun k d => zVw k (d.1, d.2.1) d.2.2.1) (fun x => (x.1, x.2.1, x.2.2, ()))
theorem yTw : zI prog qCh := fX (rs := .c (.own (.sl (.int .i64)))) (os := [[.fro (.int .u8), .bool]]) (ns := 0) f104 yBr 1 (fun d => (d.1, (d.2.1, d.2.2.1))) qQe (loops1 yVv)
def qEg : Nat × zH := zP 106 [.c (.dat false (.int .u8)), .c (.dat false (.int .u8))] (.c (.bool)) (fun k d => qU2 k d.1 d.2.1) (fun x => (x, ()))
theorem vDl : zI prog qEg := fA (rs := .c (.bool)) f106 ⟨[], [], [], true⟩ (fun d => d.1) (zL (l := []) zK trivial) zJ
def qZu : zM := ⟨[(0, .c (.dat true (.int .u8))), (2, .c (.lit (.ptr 1001000 0))), (4, .c (.lit (.ptr 1001001 0))), (5, .c (.lit (.osl 1001002 none))), (6, .c (.lit (.ptr 1001003 0))), (7, .c (.int .i64))], [.box true zB5, .box true zL1, .arr true (.int .i64), .box true yGn, .arr true qZ], [(6, some 1, qZ, false)]⟩
def yC1 : zM := ⟨[(0, .c (.dat true (.int .u8))), (2, .c (.lit (.ptr 1001000 0))), (4, .c (.lit (.ptr 1001001 0))), (5, .c (.lit (.osl 1001002 none))), (6, .c (.lit (.ptr 1001003 0)))], [.box true zB5, .box true zL1, .arr true (.int .i64), .box true yGn, .arr true qZ], []⟩
def yEv (f : qN4) (d : qZu.den) : Option zTt := f d.1.1.1 d.1.2.2.2.2.2.1.1 (d.2.1.1, d.2.1.2.1, d.2.1.2.2.1) (d.2.2.1.1, d.2.2.1.2.1) d.2.2.2.1 (d.2.2.2.2.1.1, d.2.2.2.2.1.2.1, d.2.2.2.2.1.2.2.1) d.2.2.2.2.2.1
def zTm : qG := ⟨[qZu], [(.exit 0, yC1)], zTt, fun k d => yEv (qFv k k) d, fun b x _ K => K (.exit 0) (zU b yC1 (((x.1, ()), (), (), (), (), ()), ((x.2.1.1, x.2.1.2.1, x.2.1.2.2, ()), (x.2.2.1.1, x.2.2.1.2, ()), x.2.2.2.1, (x.2.2.2.2.1.1, x.2.2.2.2.1.2.1, x.2.2.2.2.1.2.2, ()), x.2.2.2.2.2, ())))⟩
def qR8 : zM := ⟨[(0, .c (.dat true (.int .u8))), (2, .c (.lit (.ptr 1001000 0))), (4, .c (.lit (.ptr 1001001 0))), (6, .c (.lit (.ptr 1001002 0))), (9, .c (.int .i64))], [.box true zB5, .box true zL1, .box true yN9, .arr true qZ, .arr true (.sl (.int .i64)), .arr true (.int .i64), .arr true (.sl (.int .i64)), .arr true (.int .i64), .arr true (.sl (.int .i64)), .arr true zN], [(6, some 7, zN, false)]⟩
def yLd : zM := ⟨[(0, .c (.dat true (.int .u8))), (2, .c (.lit (.ptr 1001000 0))), (4, .c (.lit (.ptr 1001001 0))), (6, .c (.lit (.ptr 1001002 0)))], [.box true zB5, .box true zL1, .box true yN9, .arr true qZ, .arr true (.sl (.int .i64)), .arr true (.int .i64), .arr true (.sl (.int .i64)), .arr true (.int .i64), .arr true (.sl (.int .i64)), .arr true zN], []⟩
def yCj (f : qIl) (d : qR8.den) : Option zUj := f d.1.1.1 d.1.2.2.2.2.1.1 (d.2.1.1, d.2.1.2.1, d.2.1.2.2.1) (d.2.2.1.1, d.2.2.1.2.1) (d.2.2.2.1.1, d.2.2.2.1.2.1, d.2.2.2.1.2.2.1) d.2.2.2.2.1 d.2.2.2.2.2.1 d.2.2.2.2.2.2.1 d.2.2.2.2.2.2.2.1 d.2.2.2.2.2.2.2.2.1 d.2.2.2.2.2.2.2.2.2.1 d.2.2.2.2.2.2.2.2.2.2.1
def zT7 : qG := ⟨[qR8], [(.exit 2, yLd)], zUj, fun k d => yCj (qOf k k) d, fun b x _ K => K (.exit 2) (zU b yLd (((x.1, ()), (), (), (), ()), ((x.2.1.1, x.2.1.2.1, x.2.1.2.2, ()), (x.2.2.1.1, x.2.2.1.2, ()), (x.2.2.2.1.1, x.2.2.2.1.2.1, x.2.2.2.1.2.2, ()), x.2.2.2.2.1, x.2.2.2.2.2.1, x.2.2.2.2.2.2.1, x.2.2.2.2.2.2.2.1, x.2.2.2.2.2.2.2.2.1, x.2.2.2.2.2.2.2.2.2.1, x.2.2.2.2.2.2.2.2.2.2, ())))⟩
def yZt : qA := ⟨prog, fun _ => false, qP [qH4, qCh, zLo, zFw, qEg]⟩
def qOu : zZ := ⟨[], [(5, zTm), (15, zT7)], [], true⟩
theorem qIe : qM yZt := zL zK ⟨vHe, yTw, qIa, zRs, vDl, trivial⟩
theorem vGn : qF prog 1000 0 146 (qC (qD f58) 0) zTm := lp (A := qOu) zTm (fun d => (d.1.1.1, (d.2.1.1, d.2.1.2.1, d.2.1.2.2.1), (d.2.2.1.1, d.2.2.1.2.1), d.2.2.2.1, (d.2.2.2.2.1.1, d.2.2.2.2.1.2.1, d.2.2.2.2.1.2.2.1), d.2.2.2.2.2.1)) yEv qFv qR4 qIe zJ
theorem yRi : qF prog 1000 0 146 (qC (qD f58) 1) zT7 := lp (A := qOu) zT7 (fun d => (d.1.1.1, (d.2.1.1, d.2.1.2.1, d.2.1.2.2.1), (d.2.2.1.1, d.2.2.1.2.1), (d.2.2.2.1.1, d.2.2.2.1.2.1, d.2.2.2.1.2.2.1), d.2.2.2.2.1, d.2.2.2.2.2.1, d.2.2.2.2.2.2.1, d.2.2.2.2.2.2.2.1, d.2.2.2.2.2.2.2.2.1, d.2.2.2.2.2.2.2.2.2.1, d.2.2.2.2.2.2.2.2.2.2.1)) yCj qOf qQp qIe zJ
def zPf : Nat × zH := zP 58 [.c (.dat true (.int .u8))] (.tup [(true, zC6), (false, [.bool])]) (fun k d => zZk k d.1) (fun x => (wH x.1 (x.2, ())))
theorem yEa : zI prog zPf := fA (rs := .tup [(true, zC6), (false, [.bool])]) f58 qOu (fun d => ((yZ d), d.2.2.2.2.2.2.2.2.2.2.2.1)) qIe (zF6 (n := 2) (by kernel_rfl) fun i hi => match i, hi with | 0, _ => ⟨zTm, by kernel_rfl, vGn⟩ | 1, _ => ⟨zT7, by kernel_rfl, yRi⟩ | i + 2, hi => absurd hi (by omega))
def zR4 : Nat × zH := zP 67 [.c (.int .i64)] (.c (.int .i64)) (fun k d => zMr k d.1) (fun x => (x, ()))
theorem qCc : zI prog zR4 := fA (rs := .c (.int .i64)) f67 ⟨[], [], [], true⟩ (fun d => d.1) (zL (l := []) zK trivial) zJ
def zJx : Nat × zH := zP 29 [.c (.dat false (.int .u8))] (.tup [(true, zCs), (false, qQ)]) (fun k d => zJ8 k d.1) (fun x => (zB6 x.1 (x.2, ())))
theorem zTq : zI prog zJx := fA (rs := .tup [(true, zCs), (false, qQ)]) f29 ⟨[], [], [], true⟩ (fun d => ((jH d), d.2.2.2.2.2.2.2.1)) (zL (l := [zKr, zR4]) zK ⟨zQd, qCc, trivial⟩) zJ
def zQw : Nat × zH := zP 60 [.c (.dat false (.int .u8))] (.tup [(true, zMc), (false, qQ)]) (fun k d => qB3 k d.1) (fun x => (zKl x.1 (x.2, ())))
theorem yJ1 : zI prog zQw := fA (rs := .tup [(true, zMc), (false, qQ)]) f60 ⟨[], [], [], true⟩ (fun d => ((zCh d), d.2.2.2.2.2.2.2.2.1)) (zL (l := [zKr, zJx]) zK ⟨zQd, zTq, trivial⟩) zJ
def yDo : Nat × zH := zP 132 [.c (.int .i64)] (.c (.bool)) (fun k d => zWg k d.1) (fun x => (x, ()))
theorem vF3 : zI prog yDo := fA (rs := .c (.bool)) f132 ⟨[], [], [], true⟩ (fun d => d.1) (zL (l := []) zK trivial) zJ
def yIl : Nat × zH := zP 133 [.c (.int .i64)] (.c (.bool)) (fun k d => zOr k d.1) (fun x => (x, ()))
theorem vCk : zI prog yIl := fA (rs := .c (.bool)) f133 ⟨[], [], [], true⟩ (fun d => d.1) (zL (l := []) zK trivial) zJ
def yBj : zM := ⟨[(13, .c (.dat true (.int .i64))), (14, .c (.int .i64)), (15, .c (.int .i64))], [], []⟩
def yF1 : zM := ⟨[], [], []⟩
def yLa : zM := ⟨[(2, .c (.bool))], [], []⟩
def yDv (f : qHm) (d : yBj.den) : Option (Unit ⊕ Bool) := f d.1.1.1 d.1.2.1.1 d.1.2.2.1.1
def qGn : qG := ⟨[yBj], [(.exit 0, yF1), (.ret, yLa)], (Unit ⊕ Bool), fun k d => yDv (zQv k k) d, fun b x _ K => match x with | .inl x => K (.exit 0) (zU b yF1 ((), ())) | .inr x => K .ret (zU b yLa (((x, ()), ()), ()))⟩
def vEz : qA := ⟨prog, fun _ => false, qP [zR4]⟩
def yBy : zZ := ⟨[], [(5, qGn)], [], true⟩
theorem yJk : qM vEz := zL zK ⟨qCc, trivial⟩
theorem yY1 : qF prog 1000 0 22 (qC (qD f134) 0) qGn := lp (A := yBy) qGn (fun d => match d with | .inl d => .inl () | .inr d => .inr d.1.1.1) yDv zQv zS6 yJk zJ
def qJb : Nat × zH := zP 134 [.agg vS] (.c (.bool)) (fun k d => zMz k (jH d)) (fun x => (x, ()))
theorem qPg : zI prog qJb := fA (rs := .c (.bool)) f134 yBy (fun d => d.1) yJk (loops1 yY1)
def yEb : Nat × zH := zP 88 [.agg zC5, .agg zF0, .agg zJ3] (.c (.int .i64)) (fun k d => zR1 k (vE d) (zFy d) (qMl d)) (fun x => (x, ()))
theorem yUq : zI prog yEb := fA (rs := .c (.int .i64)) f88 ⟨[], [], [], true⟩ (fun d => d.1) (zL (l := [yDo, yIl, qJb]) zK ⟨vF3, vCk, qPg, trivial⟩) zJ
def qHo : Nat × zH := zP 194 [.agg vS, .ptr [.int .i64]] (.c (.bool)) (fun k d => (zDf (qM9 k) d)) (fun x => (x, ()))
theorem yWz : zI prog qHo := fA (rs := .c (.bool)) f194 ⟨[], [], [], false⟩ (fun d => d.1) (zL (l := []) zK trivial) zJ
def yEw : zM := ⟨[(1, .c (.lit (.fn 194 [1001000]))), (5, .c (.lit (.osl 1001001 none))), (8, .c (.dat false zN)), (9, .c (.int .i64)), (10, .c (.int .i64))], [.robox [.int .i64], .arr true zN], [(5, none, zN, false)]⟩
def qXi : zM := ⟨[(5, .c (.lit (.osl 1001000 none)))], [.arr true zN], []⟩
def yI3 (f : qM4) (d : yEw.den) : Option zUr := f d.1.2.2.1.1 d.1.2.2.2.1.1 d.1.2.2.2.2.1.1 d.2.1.1 d.2.2.1
def qLu : qG := ⟨[yEw], [(.exit 0, qXi)], zUr, fun k d => yI3 (zPn k k) d, fun b x _ K => K (.exit 0) (zU b qXi (((), ()), (x, ())))⟩
def vAv : qA := ⟨prog, fun _ => false, qP [qHo]⟩
def yBb : zZ := ⟨[], [(3, qLu)], [], false⟩
theorem qZv : qM vAv := zL zK ⟨yWz, trivial⟩
theorem yWd : qF prog 1000 0 23 (qC (qD f193) 0) qLu := lp (A := yBb) qLu (fun d => d.2.1) yI3 zPn zKt qZv zJ
def yJm : Nat × zH := zP 193 [.c (.dat false zN), .fn 194 [[.int .i64]]] (.c (.own zN)) (fun k d => qOd k d.1 d.2.1) (fun x => (x, ()))
theorem vDq : zI prog yJm := fA (rs := .c (.own zN)) f193 yBb (fun d => d.1) qZv (loops1 yWd)
def zZi : Nat × zH := zP 135 [.c (.dat false zN), .c (.int .i64)] (.c (.own zN)) (fun k d => zRx k d.1 d.2.1) (fun x => (x, ()))
theorem qO8 : zI prog zZi := fA (rs := .c (.own zN)) f135 ⟨[], [], [], false⟩ (fun d => d.1) (zL (l := [yJm]) zK ⟨vDq, trivial⟩) zJ
def yD9 : Nat × zH := yS 90 [.ptr true [.p (.int .i64), .p (.nil), .p (.int .i64), .p (.int .i64), .p (.int .i64), .p (.int .i64), .p (.nil), .p (.nil), .p (.nil), .p (.nil), .p (.nil), .p (.nil), .p (.nil), .p (.nil), .p (.int .i64), .p (.bool), .p (.int .i64), .p (.nil)], .c (.p (.int .i64)), .c (.p (.dat false (.int .i64)))] (.tup []) [qV9] 0 (fun k d => yJ4 k (d.1, (qFo d (d.2.2.2.2.2.2.2.2.2.2.2.2.2.2.1, d.2.2.2.2.2.2.2.2.2.2.2.2.2.2.2.1, d.2.2.2.2.2.2.2.2.2.2.2.2.2.2.2.2.1))) d.2.2.2.2.2.2.2.2.2.2.2.2.2.2.2.2.2.2.1 d.2.2.2.2.2.2.2.2.2.2.2.2.2.2.2.2.2.2.2.1) (fun x => (wI x ()))
theorem yX0 : zI prog yD9 := fX (rs := .tup []) (os := [qV9]) (ns := 0) f90 ⟨[], [], [], true⟩ 1 (fun d => (jG d)) (zL (l := []) zK trivial) zJ
def qQy : Nat × zH := zP 89 [.agg zF0, .c (.int .i64)] (.c (.own qU)) (fun k d => zTa k (yZ d) d.2.2.2.2.2.2.2.2.2.2.2.1) (fun x => (x, ()))
theorem yXq : zI prog qQy := fA (rs := .c (.own qU)) f89 ⟨[], [], [], true⟩ (fun d => d.1) (zL (l := [zZi, yD9]) zK ⟨qO8, yX0, trivial⟩) zJ
def qDx : Nat × zH := yS 90 [.ptr true zF5, .c (.p (.int .i64)), .c (.p (.dat false (.int .i64)))] (.tup []) [vQ] 0 (fun k d => zSt k (zBi d) d.2.2.2.2.2.2.2.2.2.2.2.2.2.2.2.2.2.2.1 d.2.2.2.2.2.2.2.2.2.2.2.2.2.2.2.2.2.2.2.1) (fun x => (wI x ()))
theorem qSp : zI prog qDx := fX (rs := .tup []) (os := [vQ]) (ns := 0) f90 ⟨[], [], [], true⟩ 1 (fun d => (jG d)) (zL (l := []) zK trivial) zJ
def jU : Nat × zH := zP 107 [.c (.int .i64), .c (.int .i64), .c (.int .i64)] (.c (.bool)) (fun k d => yR k d.1 d.2.1 d.2.2.1) (fun x => (x, ()))
theorem zBa : zI prog jU := fA (rs := .c (.bool)) f107 ⟨[], [], [], true⟩ (fun d => d.1) (zL (l := []) zK trivial) zJ
def qPy : Nat × zH := zP 271 [.agg zC5, .c (.int .i64)] (.c (.bool)) (fun k d => zNw k (vE d) d.2.2.2.2.2.1) (fun x => (x, ()))
theorem vC2 : zI prog qPy := fA (rs := .c (.bool)) f271 ⟨[], [], [], true⟩ (fun d => d.1) (zL (l := []) zK trivial) zJ
def yAc : Nat × zH := zP 238 [.agg zC5, .c (.int .i64), .agg vS] (.c (.bool)) (fun k d => zYg k (vE d) d.2.2.2.2.2.1 (qUk d)) (fun x => (x, ()))
theorem yZu : zI prog yAc := fA (rs := .c (.bool)) f238 ⟨[], [], [], true⟩ (fun d => d.1) (zL (l := [qPy]) zK ⟨vC2, trivial⟩) zJ
def zTo : Nat × zH := zP 200 [.agg zC5, .c (.int .i64), .c (.int .i64)] (.c (.int .i64)) (fun k d => zHt k (vE d) d.2.2.2.2.2.1 d.2.2.2.2.2.2.1) (fun x => (x, ()))
theorem qCg : zI prog zTo := fA (rs := .c (.int .i64)) f200 ⟨[], [], [], true⟩ (fun d => d.1) (zL (l := []) zK trivial) zJ
def qNa : Nat × zH := zP 195 [.agg zC5, .c (.int .i64), .agg vS] (.c (.int .i64)) (fun k d => zI4 k (vE d) d.2.2.2.2.2.1 (qUk d)) (fun x => (x, ()))
theorem qZt : zI prog qNa := fA (rs := .c (.int .i64)) f195 ⟨[], [], [], true⟩ (fun d => d.1) (zL (l := [yAc, zTo]) zK ⟨yZu, qCg, trivial⟩) zJ
def yF8 : Nat × zH := zP 285 [.c (.int .i64)] (.c (.bool)) (fun k d => zUe k d.1) (fun x => (x, ()))
theorem vB4 : zI prog yF8 := fA (rs := .c (.bool)) f285 ⟨[], [], [], true⟩ (fun d => d.1) (zL (l := []) zK trivial) zJ
def qBq : Nat × zH := zP 257 [.c (.int .i64), .c (.int .i64)] (.c (.bool)) (fun k d => zS7 k d.1 d.2.1) (fun x => (x, ()))
theorem vBr : zI prog qBq := fA (rs := .c (.bool)) f257 ⟨[], [], [], true⟩ (fun d => d.1) (zL (l := [yF8]) zK ⟨vB4, trivial⟩) zJ
def qAg : Nat × zH := zP 258 [.c (.int .i64)] (.c (.bool)) (fun k d => zY9 k d.1) (fun x => (x, ()))
theorem yWj : zI prog qAg := fA (rs := .c (.bool)) f258 ⟨[], [], [], true⟩ (fun d => d.1) (zL (l := []) zK trivial) zJ
def qZ6 : zM := ⟨[(0, .c (.dat false (.int .i64))), (1, .c (.int .i64)), (6, .c (.int .i64)), (7, .c (.int .i64)), (8, .c (.int .i64))], [], []⟩
def qZ7 : zM := ⟨[(0, .c (.dat false (.int .i64))), (1, .c (.int .i64)), (6, .c (.int .i64)), (7, .c (.int .i64))], [], []⟩
def qPw (f : qDy) (d : qZ6.den) : Option zTf := f d.1.1.1 d.1.2.1.1 d.1.2.2.1.1 d.1.2.2.2.1.1 d.1.2.2.2.2.1.1
def qL4 : qG := ⟨[qZ6], [(.exit 0, qZ7)], zTf, fun k d => qPw (zPo k k) d, fun b x _ K => K (.exit 0) (zU b qZ7 (((x.1, ()), (x.2.1, ()), (x.2.2.1, ()), (x.2.2.2, ()), ()), ()))⟩
def yYd : qA := ⟨prog, fun _ => false, qP [qBq, qAg]⟩
def qRk : zZ := ⟨[], [(3, qL4)], [], true⟩
theorem qPr : qM yYd := zL zK ⟨vBr, yWj, trivial⟩
theorem vEk : qF prog 1000 0 54 (qC (qD f222) 0) qL4 := lp (A := qRk) qL4 (fun d => (d.1.1.1, d.1.2.1.1, d.1.2.2.1.1, d.1.2.2.2.1.1)) qPw zPo zYd qPr zJ
def qAn : Nat × zH := zP 222 [.c (.dat false (.int .i64)), .c (.int .i64)] (.tup [(false, qQ), (false, [.bool])]) (fun k d => zKx k d.1 d.2.1) (fun x => (x.1, x.2, ()))
theorem qY2 : zI prog qAn := fA (rs := .tup [(false, qQ), (false, [.bool])]) f222 qRk (fun d => (d.1, d.2.1)) qPr (loops1 vEk)
def zNt : Nat × zH := zGo 240 false (.int .i64) (.own (.int .i64)) zDo
theorem zYk : zI prog zNt := fC f240 ⟨[], [], [], false⟩ (zL (l := []) zK trivial) zJ
theorem yY4 (A X : Option Addr) (n c vc : Nat) (w w' : World) (rv : Value) (hr : (Builtin.append_ #[37, 37] 37 #[.slice A n c, .slice X 1 vc]).run prog w = .ok rv w') :
    Calls prog 239 #[.slice A n c, .int .i64 n, .slice X 1 vc] w fun e w'' => e = .returned rv ∧ w'' = w' := by
  have t0 : prog.underlying 37 = some (.slice 2) := by kernel_rfl
  have t3 : prog.underlying 3 = some (.int .i64) := by kernel_rfl
  have z0 : ∀ w, (Go.sizeOf 2).run prog w = .ok 1 w := fun w => by kernel_rfl
  have u0 := run_underlying t0; have u3 := run_underlying t3
  go_enter Proofs.Tryz.func239, Proofs.Tryz.ntmps239
  go_wp2_with (at_builtin; refine Lib.wpList_append_run _ rfl _ _ _ _ rfl _ _ rfl rfl _ _ hr ?_)
  all_goals (go_ret; exact ⟨rfl, rfl⟩)
theorem vGa : zWu prog 239 37 3 1 where
  ends := yY4
  grow B off n c i X vo vc N G w w1 w2 w3 hi hnc hroom h63 hG hz hA hB := by
    simp only [Nat.mul_one] at hA hB
    have t0 : prog.underlying 37 = some (.slice 2) := by kernel_rfl
    have t3 : prog.underlying 3 = some (.int .i64) := by kernel_rfl
    have z0 : ∀ w, (Go.sizeOf 2).run prog w = .ok 1 w := fun w => by kernel_rfl
    have u0 := run_underlying t0; have u3 := run_underlying t3
    have mixed : prog.follows .mixedOrders = true := zK
    have hz2 : ¬ ((i : Int) = (n : Int)) := by omega
    have hw1 : IntKind.i64.wrap ((i : Int) + 1) = (i : Int) + 1 := by rw [IntKind.wrap_i64]; omega
    have hb1 : (0 : Int) ≤ (i : Int) + 1 := by omega
    have hin : i ≤ n := by omega
    have htn : ((i : Int) + 1).toNat = i + 1 := by omega
    have hci : ¬ (c = i) := by omega
    have hz3 : (c : Int) < (n : Int) + 1 := by omega
    have hb3 : (i : Int) ≤ (n : Int) := by omega
    have hGi : ¬ (G = i) := by omega
    have hGim : ¬ (G = i + 1) := by omega
    go_enter Proofs.Tryz.func239, Proofs.Tryz.ntmps239
    go_wp2_with (first
      | (at_builtin; refine Lib.wpList_append_run _ rfl _ _ _ _ rfl _ _ rfl rfl _ _ hz ?_)
      | (at_builtin; refine zVy _ rfl _ _ 37 37 rfl _ _ rfl rfl (hA _) ?_))
    go_region_law_o (refine zSa rfl _ _ 37 37 rfl (.slice (some ⟨N, (i + 1), none⟩) (n + 1 - (i + 1)) (G - (i + 1))) (.slice (some ⟨B, off + i, none⟩) (n - i) (c - i)) (by simp [Act.eval, Act.put]) (by simp [Act.eval, Act.put]) (hB (G - (i + 1)) (c - i)) ?_)
    go_wp2
    go_ret
    exact ⟨rfl, rfl⟩
  shift B off n c i X vo vc w w1 w2 hi hroom h63 hap hA hB := by
    simp only [Nat.mul_one] at hA hB
    have t0 : prog.underlying 37 = some (.slice 2) := by kernel_rfl
    have t3 : prog.underlying 3 = some (.int .i64) := by kernel_rfl
    have z0 : ∀ w, (Go.sizeOf 2).run prog w = .ok 1 w := fun w => by kernel_rfl
    have u0 := run_underlying t0; have u3 := run_underlying t3
    have mixed : prog.follows .mixedOrders = true := zK
    have hz2 : ¬ ((i : Int) = (n : Int)) := by omega
    have hw1 : IntKind.i64.wrap ((i : Int) + 1) = (i : Int) + 1 := by rw [IntKind.wrap_i64]; omega
    have hb1 : (0 : Int) ≤ (i : Int) + 1 := by omega
    have hin : i ≤ n := by omega
    have htn : ((i : Int) + 1).toNat = i + 1 := by omega
    have hci : ¬ (c = i) := by omega
    have hov := fun lb cb => yDt (P := prog) (fo := 272) (tb := 4) (e := 2) (size := 1) Proofs.Tryz.func272 (by kernel_rfl) (by kernel_rfl) (by kernel_rfl) (by kernel_rfl) t0 z0 hap vo (off + (i + 1)) vc lb cb
    have hb2 : ¬ (c = i + 1) := by omega
    have hb3 : (i : Int) ≤ (n : Int) + 1 := by omega
    go_enter Proofs.Tryz.func239, Proofs.Tryz.ntmps239
    go_wp2_with (simp only [hov])
    go_region_law_o (refine zSa rfl _ _ 37 37 rfl (.slice (some ⟨B, off + (i + 1), none⟩) (n - i) (c - (i + 1))) (.slice (some ⟨B, off + i, none⟩) (n + 1 - i) (c - i)) (by simp [Act.eval, Act.put]) (by simp [Act.eval, Act.put]) (hA _ _) ?_)
    go_wp2_with (at_builtin; refine zVy _ rfl _ _ 37 37 rfl _ _ rfl rfl (hB _) ?_)
    go_ret
    exact ⟨rfl, rfl⟩
def yCd : Nat × zH := (239, qHy (.int .i64) 8)
theorem yS0 : zI prog yCd := yDd (e := 2) (fn := f239) vGa
def qJy : Nat × zH := zP 196 [.c (.dat true (.int .i64)), .c (.int .i64)] (.tup [(false, [.fro (.int .i64)]), (false, qQ)]) (fun k d => zLk k d.1 d.2.1) (fun x => (x.1, x.2, ()))
theorem qUt : zI prog qJy := fA (rs := .tup [(false, [.fro (.int .i64)]), (false, qQ)]) f196 ⟨[], [], [], true⟩ (fun d => (d.1, d.2.1)) (zL (l := [qAn, zNt, yCd]) zK ⟨qY2, zYk, yS0, trivial⟩) zJ
def qGr : Nat × zH := zP 149 [.agg vS, .ptr [.int .i64]] (.c (.bool)) (fun k d => (zDf (qKj k) d)) (fun x => (x, ()))
theorem vFs : zI prog qGr := fA (rs := .c (.bool)) f149 ⟨[], [], [], false⟩ (fun d => d.1) (zL (l := []) zK trivial) zJ
def yMl : zM := ⟨[(0, .c (.dat false zN)), (1, .c (.lit (.fn 149 [1001000]))), (7, .c (.int .i64)), (8, .c (.int .i64))], [.robox [.int .i64]], []⟩
def qUu : zM := ⟨[], [], []⟩
def yC4 : zM := ⟨[(4, .c (.int .i64))], [], []⟩
def yN6 (f : qMw) (d : yMl.den) : Option (Unit ⊕ Int) := f d.1.1.1 d.1.2.2.1.1 d.1.2.2.2.1.1 d.2.1.1
def qMo : qG := ⟨[yMl], [(.exit 0, qUu), (.ret, yC4)], (Unit ⊕ Int), fun k d => yN6 (zNr k k) d, fun b x _ K => match x with | .inl x => K (.exit 0) (zU b qUu ((), ())) | .inr x => K .ret (zU b yC4 (((x, ()), ()), ()))⟩
def vC5 : qA := ⟨prog, fun _ => false, qP [qGr]⟩
def qUo : zZ := ⟨[], [(2, qMo)], [], false⟩
theorem yAf : qM vC5 := zL zK ⟨vFs, trivial⟩
theorem vA7 : qF prog 1000 0 19 (qC (qD f148) 0) qMo := lp (A := qUo) qMo (fun d => match d with | .inl d => .inl () | .inr d => .inr d.1.1.1) yN6 zNr zI7 yAf zJ
def yNv : Nat × zH := zP 148 [.c (.dat false zN), .fn 149 [[.int .i64]]] (.c (.int .i64)) (fun k d => qFz k d.1 d.2.1) (fun x => (x, ()))
theorem yXs : zI prog yNv := fA (rs := .c (.int .i64)) f148 qUo (fun d => d.1) yAf (loops1 vA7)
def zFu : Nat × zH := zP 94 [.c (.dat false zN), .c (.int .i64)] (.c (.int .i64)) (fun k d => zCt k d.1 d.2.1) (fun x => (x, ()))
theorem zL8 : zI prog zFu := fA (rs := .c (.int .i64)) f94 ⟨[], [], [], false⟩ (fun d => d.1) (zL (l := [yNv]) zK ⟨yXs, trivial⟩) zJ
def yOi : Nat × zH := zP 286 [.c (.int .i64)] (.c (.bool)) (fun k d => zT0 k d.1) (fun x => (x, ()))
theorem vAd : zI prog yOi := fA (rs := .c (.bool)) f286 ⟨[], [], [], false⟩ (fun d => d.1) (zL (l := []) zK trivial) zJ
def yA3 : Nat × zH := zP 260 [.c (.int .i64), .c (.int .i64)] (.c (.int .i64)) (fun k d => zRy k d.1 d.2.1) (fun x => (x, ()))
theorem yXk : zI prog yA3 := fA (rs := .c (.int .i64)) f260 ⟨[], [], [], false⟩ (fun d => d.1) (zL (l := [yOi]) zK ⟨vAd, trivial⟩) zJ
def qZh : zM := ⟨[(3, .c (.int .i64)), (6, .c (.dat false (.int .i64))), (7, .c (.int .i64)), (8, .c (.int .i64))], [], []⟩
def qQn : zM := ⟨[(3, .c (.int .i64))], [], []⟩
def yOe : zM := ⟨[(2, .c (.int .i64))], [], []⟩
def yDs (f : qBb) (d : qZh.den) : Option (Int ⊕ Int) := f d.1.1.1 d.1.2.1.1 d.1.2.2.1.1 d.1.2.2.2.1.1
def qM8 : qG := ⟨[qZh], [(.exit 0, qQn), (.ret, yOe)], (Int ⊕ Int), fun k d => yDs (zLz k k) d, fun b x _ K => match x with | .inl x => K (.exit 0) (zU b qQn (((x, ()), ()), ())) | .inr x => K .ret (zU b yOe (((x, ()), ()), ()))⟩
def vHp : qA := ⟨prog, fun _ => false, qP []⟩
def qX1 : zZ := ⟨[], [(3, qM8)], [], false⟩
theorem yA0 : qM vHp := zL zK trivial
theorem vGz : qF prog 1000 0 18 (qC (qD f259) 0) qM8 := lp (A := qX1) qM8 (fun d => match d with | .inl d => .inl d.1.1.1 | .inr d => .inr d.1.1.1) yDs zLz yNd yA0 zJ
def yAq : Nat × zH := zP 259 [.c (.dat false (.int .i64))] (.c (.int .i64)) (fun k d => zVh k d.1) (fun x => (x, ()))
theorem yQ9 : zI prog yAq := fA (rs := .c (.int .i64)) f259 qX1 (fun d => d.1) yA0 (loops1 vGz)
def zH2 : Nat × zH := zP 224 [.agg vS, .agg vS] (.c (.int .i64)) (fun k d => (zPm (zJh k) d)) (fun x => (x, ()))
theorem qOh : zI prog zH2 := fA (rs := .c (.int .i64)) f224 ⟨[], [], [], false⟩ (fun d => d.1) (zL (l := [yA3, yAq]) zK ⟨yXk, yQ9, trivial⟩) zJ
def zP0 : Nat × zH := zGo 242 false zN (.own zN) zGl
theorem qNu : zI prog zP0 := fC f242 ⟨[], [], [], false⟩ (zL (l := []) zK trivial) zJ
theorem yQ1 (A X : Option Addr) (n c vc : Nat) (w w' : World) (rv : Value) (hr : (Builtin.append_ #[40, 40] 40 #[.slice A n c, .slice X 1 vc]).run prog w = .ok rv w') :
    Calls prog 241 #[.slice A n c, .int .i64 n, .slice X 1 vc] w fun e w'' => e = .returned rv ∧ w'' = w' := by
  have t0 : prog.underlying 40 = some (.slice 142) := by kernel_rfl
  have t3 : prog.underlying 3 = some (.int .i64) := by kernel_rfl
  have z0 : ∀ w, (Go.sizeOf 142).run prog w = .ok 7 w := fun w => by kernel_rfl
  have u0 := run_underlying t0; have u3 := run_underlying t3
  go_enter Proofs.Tryz.func241, Proofs.Tryz.ntmps241
  go_wp2_with (at_builtin; refine Lib.wpList_append_run _ rfl _ _ _ _ rfl _ _ rfl rfl _ _ hr ?_)
  all_goals (go_ret; exact ⟨rfl, rfl⟩)
theorem vDa : zWu prog 241 40 3 7 where
  ends := yQ1
  grow B off n c i X vo vc N G w w1 w2 w3 hi hnc hroom h63 hG hz hA hB := by
    have t0 : prog.underlying 40 = some (.slice 142) := by kernel_rfl
    have t3 : prog.underlying 3 = some (.int .i64) := by kernel_rfl
    have z0 : ∀ w, (Go.sizeOf 142).run prog w = .ok 7 w := fun w => by kernel_rfl
    have u0 := run_underlying t0; have u3 := run_underlying t3
    have mixed : prog.follows .mixedOrders = true := zK
    have hz2 : ¬ ((i : Int) = (n : Int)) := by omega
    have hw1 : IntKind.i64.wrap ((i : Int) + 1) = (i : Int) + 1 := by rw [IntKind.wrap_i64]; omega
    have hb1 : (0 : Int) ≤ (i : Int) + 1 := by omega
    have hin : i ≤ n := by omega
    have htn : ((i : Int) + 1).toNat = i + 1 := by omega
    have hci : ¬ (c = i) := by omega
    have hz3 : (c : Int) < (n : Int) + 1 := by omega
    have hb3 : (i : Int) ≤ (n : Int) := by omega
    have hGi : ¬ (G = i) := by omega
    have hGim : ¬ (G = i + 1) := by omega
    go_enter Proofs.Tryz.func241, Proofs.Tryz.ntmps241
    go_wp2_with (first
      | (at_builtin; refine Lib.wpList_append_run _ rfl _ _ _ _ rfl _ _ rfl rfl _ _ hz ?_)
      | (at_builtin; refine zVy _ rfl _ _ 40 40 rfl _ _ rfl rfl (hA _) ?_))
    go_region_law_o (refine zSa rfl _ _ 40 40 rfl (.slice (some ⟨N, (i + 1) * 7, none⟩) (n + 1 - (i + 1)) (G - (i + 1))) (.slice (some ⟨B, off + i * 7, none⟩) (n - i) (c - i)) (by simp [Act.eval, Act.put]) (by simp [Act.eval, Act.put]) (hB (G - (i + 1)) (c - i)) ?_)
    go_wp2
    go_ret
    exact ⟨rfl, rfl⟩
  shift B off n c i X vo vc w w1 w2 hi hroom h63 hap hA hB := by
    have t0 : prog.underlying 40 = some (.slice 142) := by kernel_rfl
    have t3 : prog.underlying 3 = some (.int .i64) := by kernel_rfl
    have z0 : ∀ w, (Go.sizeOf 142).run prog w = .ok 7 w := fun w => by kernel_rfl
    have u0 := run_underlying t0; have u3 := run_underlying t3
    have mixed : prog.follows .mixedOrders = true := zK
    have hz2 : ¬ ((i : Int) = (n : Int)) := by omega
    have hw1 : IntKind.i64.wrap ((i : Int) + 1) = (i : Int) + 1 := by rw [IntKind.wrap_i64]; omega
    have hb1 : (0 : Int) ≤ (i : Int) + 1 := by omega
    have hin : i ≤ n := by omega
    have htn : ((i : Int) + 1).toNat = i + 1 := by omega
    have hci : ¬ (c = i) := by omega
    have hov := fun lb cb => yDt (P := prog) (fo := 274) (tb := 4) (e := 142) (size := 7) Proofs.Tryz.func274 (by kernel_rfl) (by kernel_rfl) (by kernel_rfl) (by kernel_rfl) t0 z0 hap vo (off + (i + 1) * 7) vc lb cb
    have hb2 : ¬ (c = i + 1) := by omega
    have hb3 : (i : Int) ≤ (n : Int) + 1 := by omega
    go_enter Proofs.Tryz.func241, Proofs.Tryz.ntmps241
    go_wp2_with (simp only [hov])
    go_region_law_o (refine zSa rfl _ _ 40 40 rfl (.slice (some ⟨B, off + (i + 1) * 7, none⟩) (n - i) (c - (i + 1))) (.slice (some ⟨B, off + i * 7, none⟩) (n + 1 - i) (c - i)) (by simp [Act.eval, Act.put]) (by simp [Act.eval, Act.put]) (hA _ _) ?_)
    go_wp2_with (at_builtin; refine zVy _ rfl _ _ 40 40 rfl _ _ rfl rfl (hB _) ?_)
    go_ret
    exact ⟨rfl, rfl⟩
def zQq : Nat × zH := (241, qHy zN 56)
theorem yHf : zI prog zQq := yDd (e := 142) (fn := f241) vDa
def yIy : zM := ⟨[(0, .c (.dat true zN)), (3, .c (.lit (.ptr 1001000 0))), (6, .c (.int .i64))], [.box true zBu], []⟩
def yH2 : zM := ⟨[(0, .c (.dat true zN)), (3, .c (.lit (.ptr 1001000 0))), (6, .c (.int .i64))], [.box true zBu], []⟩
def qRg (f : qKc) (d : yIy.den) : Option zVk := f d.1.1.1 d.1.2.2.1.1 (jH d.2.1)
def qGi : qG := ⟨[yIy], [(.exit 1, yH2)], zVk, fun k d => qRg (zJz k k) d, fun b x _ K => K (.exit 1) (zU b yH2 (((x.1, ()), (), (x.2.1, ()), ()), ((zB6 x.2.2 ()), ())))⟩
def yTs : qA := ⟨prog, fun _ => false, qP [zFu, zH2, zP0, zQq]⟩
def yNu : zZ := ⟨[], [(6, qGi)], [], true⟩
theorem yEl : qM yTs := zL zK ⟨zL8, qOh, qNu, yHf, trivial⟩
theorem yRb : qF prog 1000 0 40 (qC (qD f197) 0) qGi := lp (A := yNu) qGi (fun d => (d.1.1.1, d.1.2.2.1.1, (jH d.2.1))) qRg zJz zLc yEl zJ
def zN9 : Nat × zH := zP 197 [.c (.dat true zN), .agg vS] (.tup [(false, [.fro zN]), (false, qQ)]) (fun k d => zF9 k d.1 (zN7 d)) (fun x => (x.1, x.2, ()))
theorem zWa : zI prog zN9 := fA (rs := .tup [(false, [.fro zN]), (false, qQ)]) f197 yNu (fun d => (d.1, d.2.1)) yEl (loops1 yRb)
def yLu : Nat × zH := yS 136 [.ptr true zGs, .agg [.int .i64, .int .i64, .int .i64, .int .i64, .int .i64, .int .i64]] (.c (.int .i64)) [vQ] 0 (fun k d => zXv k (jG d) (qPo d)) (fun x => (x.1, (wI x.2 ())))
theorem vDe : zI prog yLu := fX (rs := .c (.int .i64)) (os := [vQ]) (ns := 0) f136 ⟨[], [], [], true⟩ 1 (fun d => (d.1, (zAq d))) (zL (l := [jU, qNa, qJy, zN9]) zK ⟨zBa, qZt, qUt, zWa, trivial⟩) zJ
def qLz : Nat × zH := zP 198 [.ptr qH2, .c (.int .i64)] (.tup [(true, zCs), (false, qQ)]) (fun k d => qEw k (jG d) d.2.2.2.2.2.2.2.2.2.2.2.2.2.2.2.2.2.2.1) (fun x => (zB6 x.1 (x.2, ())))
theorem qPb : zI prog qLz := fA (rs := .tup [(true, zCs), (false, qQ)]) f198 ⟨[], [], [], true⟩ (fun d => ((jH d), d.2.2.2.2.2.2.2.1)) (zL (l := [zFu]) zK ⟨zL8, trivial⟩) zJ
def qI5 : Nat × zH := yS 243 [.c (.own zN), .c (.p (.int .i64)), .c (.p (.int .i64))] (.c (.own zN)) [] 0 (fun k d => zQl k d.1 d.2.1 d.2.2.1) (fun x => (x, ()))
theorem yH1 : zI prog qI5 := fX (rs := .c (.own zN)) (os := []) (ns := 0) f243 ⟨[], [], [], false⟩ 0 (fun d => d.1) (zL (l := []) zK trivial) zJ
def zDg : Nat × zH := zP 199 [.c (.dat true zN), .c (.int .i64)] (.tup [(false, [.fro zN]), (true, zCs), (false, qQ)]) (fun k d => zDw k d.1 d.2.1) (fun x => (qMv x ()))
theorem zHp : zI prog zDg := fA (rs := .tup [(false, [.fro zN]), (true, zCs), (false, qQ)]) f199 ⟨[], [], [], false⟩ (fun d => (qJo d)) (zL (l := [zFu, zP0, qI5]) zK ⟨zL8, qNu, yH1, trivial⟩) zJ
def qBt : Nat × zH := yS 90 [.ptr true zGs, .c (.p (.int .i64)), .c (.p (.dat false (.int .i64)))] (.tup []) [vQ] 0 (fun k d => zG7 k (jG d) d.2.2.2.2.2.2.2.2.2.2.2.2.2.2.2.2.2.2.1 d.2.2.2.2.2.2.2.2.2.2.2.2.2.2.2.2.2.2.2.1) (fun x => (wI x ()))
theorem qUz : zI prog qBt := fX (rs := .tup []) (os := [vQ]) (ns := 0) f90 ⟨[], [], [], true⟩ 1 (fun d => (jG d)) (zL (l := []) zK trivial) zJ
def qEx : Nat × zH := zP 201 [.c (.dat true zN), .c (.int .i64), .c (.int .i64)] (.tup [(false, [.fro zN]), (false, qQ)]) (fun k d => zLm k d.1 d.2.1 d.2.2.1) (fun x => (x.1, x.2, ()))
theorem yGv : zI prog qEx := fA (rs := .tup [(false, [.fro zN]), (false, qQ)]) f201 ⟨[], [], [], true⟩ (fun d => (d.1, d.2.1)) (zL (l := [zDg, zN9]) zK ⟨zHp, zWa, trivial⟩) zJ
def qCa : Nat × zH := zP 199 [.c (.dat false zN), .c (.int .i64)] (.tup [(false, [.own zN]), (true, zCs), (false, qQ)]) (fun k d => qKg k d.1 d.2.1) (fun x => (qMv x ()))
theorem yY9 : zI prog qCa := fA (rs := .tup [(false, [.own zN]), (true, zCs), (false, qQ)]) f199 ⟨[], [], [], false⟩ (fun d => (qJo d)) (zL (l := [zFu, zP0, qI5]) zK ⟨zL8, qNu, yH1, trivial⟩) zJ
def qZr : zM := ⟨[(6, .c (.lit (.osl 1001000 none))), (7, .c (.lit (.ptr 1001001 0))), (9, .c (.int .i64))], [.arr true zN, .box true zBu], []⟩
def yAs : zM := ⟨[(6, .c (.lit (.osl 1001000 none))), (7, .c (.lit (.ptr 1001001 0))), (9, .c (.int .i64))], [.arr true zN, .box true zBu], []⟩
def qV8 (f : qKq) (d : qZr.den) : Option zWt := f d.1.2.2.1.1 d.2.1 (jH d.2.2.1)
def qNs : qG := ⟨[qZr], [(.exit 0, yAs)], zWt, fun k d => qV8 (zNg k k) d, fun b x _ K => K (.exit 0) (zU b yAs (((), (), (x.1, ()), ()), (x.2.1, (zB6 x.2.2 ()), ())))⟩
def vC4 : qA := ⟨prog, fun _ => false, qP [qCa, zH2, zQq]⟩
def yJu : zZ := ⟨[], [(5, qNs)], [], true⟩
theorem yHi : qM vC4 := zL zK ⟨yY9, qOh, yHf, trivial⟩
theorem vBt : qF prog 1000 0 41 (qC (qD f202) 0) qNs := lp (A := yJu) qNs (fun d => (d.1.2.2.1.1, d.2.1, (jH d.2.2.1))) qV8 zNg zKf yHi zJ
def qHn : Nat × zH := zP 202 [.c (.dat true zN), .c (.int .i64)] (.tup [(false, [.fro zN]), (false, qQ)]) (fun k d => zK7 k d.1 d.2.1) (fun x => (x.1, x.2, ()))
theorem yD4 : zI prog qHn := fA (rs := .tup [(false, [.fro zN]), (false, qQ)]) f202 yJu (fun d => (d.1, d.2.1)) yHi (loops1 vBt)
def qAk : Nat × zH := zP 203 [.c (.dat true zN), .c (.int .i64)] (.tup [(false, [.fro zN]), (false, qQ)]) (fun k d => zJf k d.1 d.2.1) (fun x => (x.1, x.2, ()))
theorem yMs : zI prog qAk := fA (rs := .tup [(false, [.fro zN]), (false, qQ)]) f203 ⟨[], [], [], true⟩ (fun d => (d.1, d.2.1)) (zL (l := [zDg, zN9]) zK ⟨zHp, zWa, trivial⟩) zJ
def yMh : Nat × zH := yS 137 [.ptr true zGs, .agg vS] (.c (.int .i64)) [vQ] 0 (fun k d => zHk k (jG d) (zM5 d)) (fun x => (x.1, (wI x.2 ())))
theorem vAy : zI prog yMh := fX (rs := .c (.int .i64)) (os := [vQ]) (ns := 0) f137 ⟨[], [], [], true⟩ 1 (fun d => (d.1, (zAq d))) (zL (l := [qLz, zDg, qBt, jU, zTo, qEx, qHn, qAk]) zK ⟨qPb, zHp, qUz, zBa, qCg, yGv, yD4, yMs, trivial⟩) zJ
def yBh : Nat × zH := zGo 244 false qZ (.own qZ) qJp
theorem yW9 : zI prog yBh := fC f244 ⟨[], [], [], false⟩ (zL (l := []) zK trivial) zJ
def qAf : Nat × zH := zGo 207 true (.sl (.int .i64)) (.jun) qBi
theorem yPo : zI prog qAf := fC f207 ⟨[], [], [], false⟩ (zL (l := []) zK trivial) zJ
def qUg : zM := ⟨[(3, .c (.lit (.osl 1001000 none))), (8, .c (.dat true (.sl (.int .i64)))), (9, .c (.int .i64)), (10, .c (.int .i64))], [.pmat], []⟩
def yCe : zM := ⟨[(3, .c (.lit (.osl 1001000 none)))], [.pmat], []⟩
def yHd (f : qC4) (d : qUg.den) : Option ((List (List Int)) × Nat) := f d.1.2.1.1 d.1.2.2.1.1 d.1.2.2.2.1.1 d.2.1.1 d.2.1.2
def qFw : qG := ⟨[qUg], [(.exit 0, yCe)], ((List (List Int)) × Nat), fun k d => yHd (zQf k k) d, fun b x _ K => K (.exit 0) (zU b yCe (((), ()), ((x.1, x.2), ())))⟩
def vFa : qA := ⟨prog, fun _ => false, qP [qAf, zNt]⟩
def yE1 : zZ := ⟨[], [(3, qFw)], [], false⟩
theorem yG0 : qM vFa := zL zK ⟨yPo, zYk, trivial⟩
theorem yR7 : qF prog 1000 0 22 (qC (qD f245) 0) qFw := lp (A := yE1) qFw (fun d => d.2.1) yHd zQf zNn yG0 zJ
def yK8 : Nat × zH := zP 245 [.c (.dat true (.sl (.int .i64)))] (.c (.mat)) (fun k d => zPb k d.1) (fun x => (x, ()))
theorem yVx : zI prog yK8 := fA (rs := .c (.mat)) f245 yE1 (fun d => d.1) yG0 (loops1 yR7)
def zCe : Nat × zH := zP 204 [.agg [.dat false qZ, .dat true (.sl (.int .i64)), .dat false (.int .i64), .dat true (.sl (.int .i64))]] (.agg [.own qZ, .mat, .own (.int .i64), .mat]) (fun k d => (jK (jS k) d)) (fun x => (jC x ()))
theorem zE1 : zI prog zCe := fA (rs := .agg [.own qZ, .mat, .own (.int .i64), .mat]) f204 ⟨[], [], [], false⟩ (fun d => (wS d)) (zL (l := [yBh, yK8, zNt]) zK ⟨yW9, yVx, zYk, trivial⟩) zJ
def qHb : Nat × zH := zP 205 [.ptr qH2, .c (.int .i64)] (.c (.bool)) (fun k d => qGt k (jG d) d.2.2.2.2.2.2.2.2.2.2.2.2.2.2.2.2.2.2.1) (fun x => (x, ()))
theorem qQx : zI prog qHb := fA (rs := .c (.bool)) f205 ⟨[], [], [], true⟩ (fun d => d.1) (zL (l := [jU]) zK ⟨zBa, trivial⟩) zJ
def qRh : Nat × zH := yS 138 [.ptr true zGs, .agg vS] (.c (.int .i64)) [vQ] 0 (fun k d => zIu k (jG d) (zM5 d)) (fun x => (x.1, (wI x.2 ())))
theorem ySy : zI prog qRh := fX (rs := .c (.int .i64)) (os := [vQ]) (ns := 0) f138 ⟨[], [], [], true⟩ 1 (fun d => (d.1, (zAq d))) (zL (l := [zCe, qHb, jU]) zK ⟨zE1, qQx, zBa, trivial⟩) zJ
def zI0 : Nat × zH := zP 206 [.ptr qH2, .c (.int .i64)] (.c (.bool)) (fun k d => zRk k (jG d) d.2.2.2.2.2.2.2.2.2.2.2.2.2.2.2.2.2.2.1) (fun x => (x, ()))
theorem zVd : zI prog zI0 := fA (rs := .c (.bool)) f206 ⟨[], [], [], true⟩ (fun d => d.1) (zL (l := [jU]) zK ⟨zBa, trivial⟩) zJ
def qG4 : Nat × zH := zGo 207 true (.sl (.int .i64)) (.own (.sl (.int .i64))) zNo
theorem yI2 : zI prog qG4 := fC f207 ⟨[], [], [], false⟩ (zL (l := []) zK trivial) zJ
def zIv : Nat × zH := zP 208 [.c (.dat false (.int .i64)), .c (.int .i64), .c (.int .i64)] (.c (.own (.int .i64))) (fun k d => zDp k d.1 d.2.1 d.2.2.1) (fun x => (x, ()))
theorem zR8 : zI prog zIv := fA (rs := .c (.own (.int .i64))) f208 ⟨[], [], [], true⟩ (fun d => d.1) (zL (l := [zNt]) zK ⟨zYk, trivial⟩) zJ
def qSv : Nat × zH := zP 254 [.c (.int .i64)] (.c (.bool)) (fun k d => qCf k d.1) (fun x => (x, ()))
theorem yVn : zI prog qSv := fA (rs := .c (.bool)) f254 ⟨[], [], [], true⟩ (fun d => d.1) (zL (l := []) zK trivial) zJ
def qPq : Nat × zH := zP 255 [.c (.int .u64), .c (.int .u64)] (.tup [(false, [.int .u64]), (false, [.int .u64])]) (fun k d => zP8 k d.1 d.2.1) (fun x => (x.1, x.2, ()))
theorem vAa : zI prog qPq := fA (rs := .tup [(false, [.int .u64]), (false, [.int .u64])]) f255 ⟨[], [], [], true⟩ (fun d => (d.1, d.2.1)) (zL (l := []) zK trivial) zJ
def yB6 : Nat × zH := zP 295 [.c (.int .u64)] (.c (.int .i64)) (fun k d => yJb k d.1) (fun x => (x, ()))
theorem vF5 : zI prog yB6 := fA (rs := .c (.int .i64)) f295 ⟨[], [], [], true⟩ (fun d => d.1) (zL (l := []) zK trivial) zJ
def qHw : Nat × zH := zP 284 [.c (.int .u64)] (.c (.int .i64)) (fun k d => qU9 k d.1) (fun x => (x, ()))
theorem yW0 : zI prog qHw := fA (rs := .c (.int .i64)) f284 ⟨[], [], [], true⟩ (fun d => d.1) (zL (l := [yB6]) zK ⟨vF5, trivial⟩) zJ
def qUn : zM := ⟨[(2, .c (.int .u64)), (8, .c (.int .u64)), (9, .c (.int .u64)), (10, .c (.int .u64)), (11, .c (.int .u64)), (13, .c (.int .u64)), (14, .c (.int .u64)), (15, .c (.int .u64)), (16, .c (.int .u64))], [], []⟩
def yMd : zM := ⟨[(2, .c (.int .u64)), (8, .c (.int .u64)), (9, .c (.int .u64)), (10, .c (.int .u64)), (11, .c (.int .u64)), (13, .c (.int .u64)), (14, .c (.int .u64)), (15, .c (.int .u64))], [], []⟩
def qX8 (f : qB1) (d : qUn.den) : Option zTg := f d.1.1.1 d.1.2.1.1 d.1.2.2.1.1 d.1.2.2.2.1.1 d.1.2.2.2.2.1.1 d.1.2.2.2.2.2.1.1 d.1.2.2.2.2.2.2.1.1 d.1.2.2.2.2.2.2.2.1.1 d.1.2.2.2.2.2.2.2.2.1.1
def zT4 : qG := ⟨[qUn], [(.exit 0, yMd)], zTg, fun k d => qX8 (qE3 k k) d, fun b x _ K => K (.exit 0) (zU b yMd (((x.1, ()), (x.2.1, ()), (x.2.2.1, ()), (x.2.2.2.1, ()), (x.2.2.2.2.1, ()), (x.2.2.2.2.2.1, ()), (x.2.2.2.2.2.2.1, ()), (x.2.2.2.2.2.2.2, ()), ()), ()))⟩
def yCn : zM := ⟨[(2, .c (.int .u64)), (8, .c (.int .u64)), (9, .c (.int .u64)), (10, .c (.int .u64)), (14, .c (.int .u64)), (15, .c (.int .u64)), (16, .c (.int .u64)), (17, .c (.int .u64)), (18, .c (.int .u64))], [], []⟩
def yGx : zM := ⟨[(2, .c (.int .u64)), (8, .c (.int .u64)), (14, .c (.int .u64)), (15, .c (.int .u64)), (17, .c (.int .u64)), (18, .c (.int .u64))], [], []⟩
def yCf (f : qMd) (d : yCn.den) : Option zYb := f d.1.1.1 d.1.2.1.1 d.1.2.2.1.1 d.1.2.2.2.1.1 d.1.2.2.2.2.1.1 d.1.2.2.2.2.2.1.1 d.1.2.2.2.2.2.2.1.1 d.1.2.2.2.2.2.2.2.1.1 d.1.2.2.2.2.2.2.2.2.1.1
def zSm : qG := ⟨[yCn], [(.exit 2, yGx)], zYb, fun k d => yCf (qH7 k k) d, fun b x _ K => K (.exit 2) (zU b yGx (((x.1, ()), (x.2.1, ()), (x.2.2.1, ()), (x.2.2.2.1, ()), (x.2.2.2.2.1, ()), (x.2.2.2.2.2, ()), ()), ()))⟩
def ySe : qA := ⟨prog, fun _ => false, qP [qHw]⟩
def qEn : zZ := ⟨[], [(17, zT4), (24, zSm)], [], true⟩
theorem qHs : qM ySe := zL zK ⟨yW0, trivial⟩
theorem yVp : qF prog 1000 0 135 (qC (qD f256) 0) zT4 := lp (A := qEn) zT4 (fun d => (d.1.1.1, d.1.2.1.1, d.1.2.2.1.1, d.1.2.2.2.1.1, d.1.2.2.2.2.1.1, d.1.2.2.2.2.2.1.1, d.1.2.2.2.2.2.2.1.1, d.1.2.2.2.2.2.2.2.1.1)) qX8 qE3 yFv qHs zJ
theorem yWn : qF prog 1000 0 135 (qC (qD f256) 1) zSm := lp (A := qEn) zSm (fun d => (d.1.1.1, d.1.2.1.1, d.1.2.2.1.1, d.1.2.2.2.1.1, d.1.2.2.2.2.1.1, d.1.2.2.2.2.2.1.1)) yCf qH7 yE7 qHs zJ
def yIc : Nat × zH := zP 256 [.c (.int .u64), .c (.int .u64), .c (.int .u64)] (.tup [(false, [.int .u64]), (false, [.int .u64])]) (fun k d => zTs k d.1 d.2.1 d.2.2.1) (fun x => (x.1, x.2, ()))
theorem vDo : zI prog yIc := fA (rs := .tup [(false, [.int .u64]), (false, [.int .u64])]) f256 qEn (fun d => (d.1, d.2.1)) qHs (zF6 (n := 2) (by kernel_rfl) fun i hi => match i, hi with | 0, _ => ⟨zT4, by kernel_rfl, yVp⟩ | 1, _ => ⟨zSm, by kernel_rfl, yWn⟩ | i + 2, hi => absurd hi (by omega))
def zVv : Nat × zH := (178, zWx)
theorem qW7 : zI prog zVv := vGv (fn := f178)
def qMq : Nat × zH := zP 221 [.c (.int .i64), .c (.int .i64), .c (.int .i64)] (.tup [(false, qQ), (false, [.bool])]) (fun k d => zWi k d.1 d.2.1 d.2.2.1) (fun x => (x.1, x.2, ()))
theorem yVs : zI prog qMq := fA (rs := .tup [(false, qQ), (false, [.bool])]) f221 ⟨[], [], [], true⟩ (fun d => (d.1, d.2.1)) (zL (l := [qSv, qPq, yIc, zVv]) zK ⟨yVn, vAa, vDo, qW7, trivial⟩) zJ
def qQc : zM := ⟨[(4, .c (.int .i64)), (5, .c (.int .u64)), (9, .c (.dat false (.int .i64))), (10, .c (.int .i64)), (11, .c (.int .i64))], [], []⟩
def yHl : zM := ⟨[(4, .c (.int .i64)), (5, .c (.int .u64))], [], []⟩
def yMj (f : qEm) (d : qQc.den) : Option vX := f d.1.1.1 d.1.2.1.1 d.1.2.2.1.1 d.1.2.2.2.1.1 d.1.2.2.2.2.1.1
def qLr : qG := ⟨[qQc], [(.exit 0, yHl)], vX, fun k d => yMj (zI9 k k) d, fun b x _ K => K (.exit 0) (zU b yHl (((x.1, ()), (x.2, ()), ()), ()))⟩
def vGr : qA := ⟨prog, fun _ => false, qP [zVv]⟩
def yDz : zZ := ⟨[], [(4, qLr)], [], false⟩
theorem qZa : qM vGr := zL zK ⟨qW7, trivial⟩
theorem yZy : qF prog 1000 0 37 (qC (qD f111) 0) qLr := lp (A := yDz) qLr (fun d => (d.1.1.1, d.1.2.1.1)) yMj zI9 zLr qZa zJ
def zPt : Nat × zH := zP 111 [.c (.dat false (.int .i64))] (.tup [(false, qQ), (false, [.bool])]) (fun k d => zP9 k d.1) (fun x => (x.1, x.2, ()))
theorem yBn : zI prog zPt := fA (rs := .tup [(false, qQ), (false, [.bool])]) f111 yDz (fun d => (d.1, d.2.1)) qZa (loops1 yZy)
def yLy : zM := ⟨[(1, .c (.dat false (.int .i64))), (2, .c (.dat false (.int .i64))), (8, .c (.lit (.osl 1001000 none))), (25, .c (.dat false wE)), (26, .c (.int .i64)), (27, .c (.int .i64))], [.arr true (.int .i64)], [(8, none, (.int .i64), false)]⟩
def yEq : zM := ⟨[(8, .c (.lit (.osl 1001000 none)))], [.arr true (.int .i64)], []⟩
def qS0 : zM := ⟨[(6, .c (.int .i64)), (7, .c (.bool))], [], []⟩
def yGe (f : qKw) (d : yLy.den) : Option ((List Int) ⊕ (Int × Bool)) := f d.1.1.1 d.1.2.1.1 d.1.2.2.2.1.1 d.1.2.2.2.2.1.1 d.1.2.2.2.2.2.1.1 d.2.1
def qK8 : qG := ⟨[yLy], [(.exit 0, yEq), (.ret, qS0)], ((List Int) ⊕ (Int × Bool)), fun k d => yGe (zMw k k) d, fun b x _ K => match x with | .inl x => K (.exit 0) (zU b yEq (((), ()), (x, ()))) | .inr x => K .ret (zU b qS0 (((x.1, ()), (x.2, ()), ()), ()))⟩
def vFr : qA := ⟨prog, fun _ => false, qP [qMq, zPt]⟩
def yM8 : zZ := ⟨[], [(5, qK8)], [], true⟩
theorem yFt : qM vFr := zL zK ⟨yVs, yBn, trivial⟩
theorem yYg : qF prog 1000 0 57 (qC (qD f170) 0) qK8 := lp (A := yM8) qK8 (fun d => match d with | .inl d => .inl d.2.1 | .inr d => .inr (d.1.1.1, d.1.2.1.1)) yGe zMw zLv yFt zJ
def zFh : Nat × zH := zP 170 [.c (.dat false wE), .c (.dat false (.int .i64)), .c (.dat false (.int .i64))] (.tup [(false, qQ), (false, [.bool])]) (fun k d => zEc k d.1 d.2.1 d.2.2.1) (fun x => (x.1, x.2, ()))
theorem zQr : zI prog zFh := fA (rs := .tup [(false, qQ), (false, [.bool])]) f170 yM8 (fun d => (d.1, d.2.1)) yFt (loops1 yYg)
def yF4 : Nat × zH := yS 139 [.ptr true zGs, .c (.p (.int .i64)), .c (.p (.int .i64))] (.c (.int .i64)) [vQ] 0 (fun k d => zU2 k (jG d) d.2.2.2.2.2.2.2.2.2.2.2.2.2.2.2.2.2.2.1 d.2.2.2.2.2.2.2.2.2.2.2.2.2.2.2.2.2.2.2.1) (fun x => (x.1, (wI x.2 ())))
theorem yTr : zI prog yF4 := fX (rs := .c (.int .i64)) (os := [vQ]) (ns := 0) f139 ⟨[], [], [], true⟩ 1 (fun d => (d.1, (zAq d))) (zL (l := [zI0, jU, qG4, zIv, zFh, zCe]) zK ⟨zVd, zBa, yI2, zR8, zQr, zE1, trivial⟩) zJ
def qEz : Nat × zH := zP 95 [.c (.int .i64), .c (.int .i64)] (.tup [(false, qQ), (false, [.bool])]) (fun k d => zLg k d.1 d.2.1) (fun x => (x.1, x.2, ()))
theorem yGo : zI prog qEz := fA (rs := .tup [(false, qQ), (false, [.bool])]) f95 ⟨[], [], [], false⟩ (fun d => (d.1, d.2.1)) (zL (l := []) zK trivial) zJ
def qH9 : Nat × zH := zP 161 [.agg zD1] (.c (.bool)) (fun k d => zZb k d.1 d.2.1 d.2.2.1) (fun x => (x, ()))
theorem yKt : zI prog qH9 := fA (rs := .c (.bool)) f161 ⟨[], [], [], false⟩ (fun d => d.1) (zL (l := []) zK trivial) zJ
def qDl : Nat × zH := zP 246 [.agg zD1, .c (.int .i64)] (.tup [(true, zLl), (false, qQ)]) (fun k d => zRb k (d.1, d.2.1, d.2.2.1) d.2.2.2.1) (fun x => (x.1.1, x.1.2.1, x.1.2.2, x.2, ()))
theorem qTb : zI prog qDl := fA (rs := .tup [(true, zLl), (false, qQ)]) f246 ⟨[], [], [], true⟩ (fun d => ((d.1, d.2.1, d.2.2.1), d.2.2.2.1)) (zL (l := [qEz, qH9]) zK ⟨yGo, yKt, trivial⟩) zJ
def qEu : Nat × zH := zP 209 [.agg zD1, .c (.int .i64)] (.tup [(true, zLl), (false, qQ)]) (fun k d => zJ5 k (d.1, d.2.1, d.2.2.1) d.2.2.2.1) (fun x => (x.1.1, x.1.2.1, x.1.2.2, x.2, ()))
theorem yLp : zI prog qEu := fA (rs := .tup [(true, zLl), (false, qQ)]) f209 ⟨[], [], [], true⟩ (fun d => ((d.1, d.2.1, d.2.2.1), d.2.2.2.1)) (zL (l := [qDl]) zK ⟨qTb, trivial⟩) zJ
def zPw : Nat × zH := zP 247 [.agg zD1, .c (.int .i64)] (.c (.int .i64)) (fun k d => (jK (zGh k) d)) (fun x => (x, ()))
theorem qJe : zI prog zPw := fA (rs := .c (.int .i64)) f247 ⟨[], [], [], false⟩ (fun d => d.1) (zL (l := []) zK trivial) zJ
def qAa : Nat × zH := zP 210 [.agg zD1, .c (.int .i64), .c (.int .i64)] (.tup [(true, zLl), (false, qQ)]) (fun k d => zK3 k (d.1, d.2.1, d.2.2.1) d.2.2.2.1 d.2.2.2.2.1) (fun x => (x.1.1, x.1.2.1, x.1.2.2, x.2, ()))
theorem yEu : zI prog qAa := fA (rs := .tup [(true, zLl), (false, qQ)]) f210 ⟨[], [], [], true⟩ (fun d => ((d.1, d.2.1, d.2.2.1), d.2.2.2.1)) (zL (l := [qDl, zPw]) zK ⟨qTb, qJe, trivial⟩) zJ
def qKz : Nat × zH := zP 211 [.agg zD1, .c (.int .i64)] (.c (.int .i64)) (fun k d => zL6 k (d.1, d.2.1, d.2.2.1) d.2.2.2.1) (fun x => (x, ()))
theorem yKb : zI prog qKz := fA (rs := .c (.int .i64)) f211 ⟨[], [], [], true⟩ (fun d => d.1) (zL (l := []) zK trivial) zJ
def qW4 : Nat × zH := yS 140 [.ptr true zGs, .c (.p (.int .i64)), .c (.p (.int .i64)), .c (.p (.int .i64))] (.c (.int .i64)) [vQ] 0 (fun k d => qF2 k (jG d) d.2.2.2.2.2.2.2.2.2.2.2.2.2.2.2.2.2.2.1 d.2.2.2.2.2.2.2.2.2.2.2.2.2.2.2.2.2.2.2.1 d.2.2.2.2.2.2.2.2.2.2.2.2.2.2.2.2.2.2.2.2.1) (fun x => (x.1, (wI x.2 ())))
theorem yPi : zI prog qW4 := fX (rs := .c (.int .i64)) (os := [vQ]) (ns := 0) f140 ⟨[], [], [], true⟩ 1 (fun d => (d.1, (zAq d))) (zL (l := [jU, qEu, qAa, qKz, zCe]) zK ⟨zBa, yLp, yEu, yKb, zE1, trivial⟩) zJ
def qSu : zM := ⟨[(0, .c (.lit (.ptr 1001000 0))), (7, .c (.lit (.osl 1001002 none))), (8, .c (.lit (.ptr 1001003 0))), (40, .c (.dat true (.sl (.int .i64)))), (41, .c (.int .i64)), (42, .c (.int .i64))], [.box true qMx, .arr true qU, .arr true (.int .i64), .box true qUy, .arr true qZ, .mat, .arr true (.int .i64), .mat], []⟩
def qZp : zM := ⟨[(0, .c (.lit (.ptr 1001000 0))), (7, .c (.lit (.osl 1001002 none))), (8, .c (.lit (.ptr 1001003 0)))], [.box true qMx, .arr true qU, .arr true (.int .i64), .box true qUy, .arr true qZ, .mat, .arr true (.int .i64), .mat], []⟩
def qVg : zM := ⟨[(0, .c (.lit (.ptr 1001000 0))), (6, .c (.int .i64))], [.box true qMx, .arr true qU], []⟩
def qWp (f : qF9) (d : qSu.den) : Option zYr := f d.1.2.2.2.1.1 d.1.2.2.2.2.1.1 d.1.2.2.2.2.2.1.1 (zBi d.2.1) d.2.2.1 d.2.2.2.1 d.2.2.2.2.2.1 d.2.2.2.2.2.2.1 d.2.2.2.2.2.2.2.1 d.2.2.2.2.2.2.2.2.1
def qLv : qG := ⟨[qSu], [(.exit 0, qZp), (.ret, qVg)], zYr, fun k d => qWp (qAo k k) d, fun b x _ K => match x with | .inl x => K (.exit 0) (zU b qZp (((), (), (), ()), ((yY x.1 ()), x.2.1, x.2.2.1, (), x.2.2.2.1, x.2.2.2.2.1, x.2.2.2.2.2.1, x.2.2.2.2.2.2, ()))) | .inr x => K .ret (zU b qVg (((), (x.1, ()), ()), ((yY x.2.1 ()), x.2.2, ())))⟩
def yW6 : qA := ⟨prog, fun _ => false, qP [zI0, jU, zIv, zCe, zFh]⟩
def yK4 : zZ := ⟨[], [(6, qLv)], [], true⟩
theorem qVb : qM yW6 := zL zK ⟨zVd, zBa, zR8, zE1, zQr, trivial⟩
theorem yP3 : qF prog 1000 1 81 (qC (qD f141) 0) qLv := lp (A := yK4) qLv (fun d => match d with | .inl d => .inl ((zBi d.2.1), d.2.2.1, d.2.2.2.1, d.2.2.2.2.2.1, d.2.2.2.2.2.2.1, d.2.2.2.2.2.2.2.1, d.2.2.2.2.2.2.2.2.1) | .inr d => .inr (d.1.2.1.1, (zBi d.2.1), d.2.2.1)) qWp qAo qSt qVb zJ
def yEc : Nat × zH := yS 141 [.ptr true zGs, .c (.p (.int .i64)), .c (.p (.int .i64))] (.c (.int .i64)) [vQ] 0 (fun k d => qRn k (jG d) d.2.2.2.2.2.2.2.2.2.2.2.2.2.2.2.2.2.2.1 d.2.2.2.2.2.2.2.2.2.2.2.2.2.2.2.2.2.2.2.1) (fun x => (x.1, (wI x.2 ())))
theorem vCm : zI prog yEc := fX (rs := .c (.int .i64)) (os := [vQ]) (ns := 0) f141 yK4 1 (fun d => (d.1, (zAq d))) qVb (loops1 yP3)
def yK3 : Nat × zH := yS 91 [.ptr true zGs, .agg vS] (.c (.int .i64)) [vQ] 0 (fun k d => zSn k (jG d) (zM5 d)) (fun x => (x.1, (wI x.2 ())))
theorem yWq : zI prog yK3 := fX (rs := .c (.int .i64)) (os := [vQ]) (ns := 0) f91 ⟨[], [], [], true⟩ 1 (fun d => (d.1, (zAq d))) (zL (l := [yLu, yMh, qRh, yF4, qW4, yEc]) zK ⟨vDe, vAy, ySy, yTr, yPi, vCm, trivial⟩) zJ
def zRd : Nat × zH := zP 112 [.agg zC5, .c (.int .i64)] (.c (.bool)) (fun k d => (zEv (zSh k) d)) (fun x => (x, ()))
theorem yL1 : zI prog zRd := fA (rs := .c (.bool)) f112 ⟨[], [], [], false⟩ (fun d => d.1) (zL (l := []) zK trivial) zJ
def zIl : Nat × zH := zP 144 [.c (.int .i64), .c (.int .i64), .c (.dat false (.int .i64))] (.agg zMc) (fun k d => zDi k d.1 d.2.1 d.2.2.1) (fun x => (zKl x ()))
theorem qKv : zI prog zIl := fA (rs := .agg zMc) f144 ⟨[], [], [], false⟩ (fun d => (zCh d)) (zL (l := []) zK trivial) zJ
def qVa : zM := ⟨[(1, .c (.lit (.ptr 1001000 0))), (2, .c (.lit (.ptr 1001001 0))), (4, .c (.lit (.osl 1001002 none))), (10, .c (.dat true zN)), (11, .c (.int .i64)), (12, .c (.int .i64))], [.box true zAo, .box true zB5, .arr true qU], [(4, none, qU, false)]⟩
def qYo : zM := ⟨[(1, .c (.lit (.ptr 1001000 0))), (2, .c (.lit (.ptr 1001001 0))), (4, .c (.lit (.osl 1001002 none)))], [.box true zAo, .box true zB5, .arr true qU], []⟩
def yJz (f : qIf) (d : qVa.den) : Option zW2 := (zFr (f d.1.2.2.2.1.1 d.1.2.2.2.2.1.1 d.1.2.2.2.2.2.1.1) d.2.1) d.2.2.1.1 d.2.2.1.2.1 d.2.2.1.2.2.1 d.2.2.2.1
def zVt : qG := ⟨[qVa], [(.exit 0, qYo)], zW2, fun k d => yJz (zJv k k) d, fun b x _ K => K (.exit 0) (zU b qYo (((), (), (), ()), ((zGv x ()), (x.2.2.2.2.2.2.2.2.2.2.2.1, x.2.2.2.2.2.2.2.2.2.2.2.2.1, x.2.2.2.2.2.2.2.2.2.2.2.2.2.1, ()), x.2.2.2.2.2.2.2.2.2.2.2.2.2.2, ())))⟩
def yIe : zM := ⟨[(1, .c (.lit (.ptr 1001000 0))), (2, .c (.lit (.ptr 1001001 0))), (4, .c (.lit (.osl 1001002 none))), (28, .c (.dat true qZ)), (29, .c (.int .i64)), (30, .c (.int .i64))], [.box true zAo, .box true zB5, .arr true qU], []⟩
def yK9 : zM := ⟨[(1, .c (.lit (.ptr 1001000 0))), (2, .c (.lit (.ptr 1001001 0))), (4, .c (.lit (.osl 1001002 none)))], [.box true zAo, .box true zB5, .arr true qU], []⟩
def qR1 (f : qBe) (d : yIe.den) : Option zYo := (zFr (f d.1.2.2.2.1.1 d.1.2.2.2.2.1.1 d.1.2.2.2.2.2.1.1) d.2.1) d.2.2.1.1 d.2.2.1.2.1 d.2.2.1.2.2.1 d.2.2.2.1
def zU9 : qG := ⟨[yIe], [(.exit 2, yK9)], zYo, fun k d => qR1 (zJb k k) d, fun b x _ K => K (.exit 2) (zU b yK9 (((), (), (), ()), ((zGv x ()), (x.2.2.2.2.2.2.2.2.2.2.2.1, x.2.2.2.2.2.2.2.2.2.2.2.2.1, x.2.2.2.2.2.2.2.2.2.2.2.2.2.1, ()), x.2.2.2.2.2.2.2.2.2.2.2.2.2.2, ())))⟩
def vE3 : qA := ⟨prog, fun _ => false, qP [zIl]⟩
def qLy : zZ := ⟨[], [(3, zVt), (8, zU9)], [], false⟩
theorem qJr : qM vE3 := zL zK ⟨qKv, trivial⟩
theorem yV5 : qF prog 1000 0 48 (qC (qD f142) 0) zVt := lp (A := qLy) zVt (fun d => (zGv d.2.1 (d.2.2.1.1, d.2.2.1.2.1, d.2.2.1.2.2.1, d.2.2.2.1))) yJz zJv zL9 qJr zJ
theorem yXj : qF prog 1000 0 48 (qC (qD f142) 1) zU9 := lp (A := qLy) zU9 (fun d => (zGv d.2.1 (d.2.2.1.1, d.2.2.1.2.1, d.2.2.1.2.2.1, d.2.2.2.1))) qR1 zJb zMq qJr zJ
def qCq : Nat × zH := zP 142 [.agg zLs] (.tup [(true, yMa), (false, [.own qU])]) (fun k d => (zFr (zUu k) d)) (fun x => (zRf x ()))
theorem vAu : zI prog qCq := fA (rs := .tup [(true, yMa), (false, [.own qU])]) f142 qLy (fun d => (zQ2 d)) qJr (zF6 (n := 2) (by kernel_rfl) fun i hi => match i, hi with | 0, _ => ⟨zVt, by kernel_rfl, yV5⟩ | 1, _ => ⟨zU9, by kernel_rfl, yXj⟩ | i + 2, hi => absurd hi (by omega))
def qA1 : Nat × zH := zP 143 [.agg vS, .c (.int .i64)] (.c (.bool)) (fun k d => (zDf (qC6 k) d)) (fun x => (x, ()))
theorem yT9 : zI prog qA1 := fA (rs := .c (.bool)) f143 ⟨[], [], [], false⟩ (fun d => d.1) (zL (l := []) zK trivial) zJ
def qNp : Nat × zH := zP 145 [.agg zC5, .c (.int .i64)] (.c (.bool)) (fun k d => (zEv (zS1 k) d)) (fun x => (x, ()))
theorem yUe : zI prog qNp := fA (rs := .c (.bool)) f145 ⟨[], [], [], false⟩ (fun d => d.1) (zL (l := []) zK trivial) zJ
def yDg : Nat × zH := zP 282 [.agg vS, .c (.int .i64)] (.c (.bool)) (fun k d => (zDf (qA4 k) d)) (fun x => (x, ()))
theorem vF6 : zI prog yDg := fA (rs := .c (.bool)) f282 ⟨[], [], [], false⟩ (fun d => d.1) (zL (l := []) zK trivial) zJ
def qKi : Nat × zH := zP 281 [.agg vS, .ptr [.int .i64]] (.c (.bool)) (fun k d => (zDf (qOs k) d)) (fun x => (x, ()))
theorem vAw : zI prog qKi := fA (rs := .c (.bool)) f281 ⟨[], [], [], false⟩ (fun d => d.1) (zL (l := [yDg]) zK ⟨vF6, trivial⟩) zJ
def qW6 : zM := ⟨[(1, .c (.lit (.fn 281 [1001000]))), (5, .c (.lit (.osl 1001001 none))), (8, .c (.dat false zN)), (9, .c (.int .i64)), (10, .c (.int .i64))], [.robox [.int .i64], .arr true zN], [(5, none, zN, false)]⟩
def yBi : zM := ⟨[(5, .c (.lit (.osl 1001000 none)))], [.arr true zN], []⟩
def yK5 (f : qDw) (d : qW6.den) : Option zUl := f d.1.2.2.1.1 d.1.2.2.2.1.1 d.1.2.2.2.2.1.1 d.2.1.1 d.2.2.1
def qOc : qG := ⟨[qW6], [(.exit 0, yBi)], zUl, fun k d => yK5 (zPp k k) d, fun b x _ K => K (.exit 0) (zU b yBi (((), ()), (x, ())))⟩
def vHm : qA := ⟨prog, fun _ => false, qP [qKi]⟩
def qZq : zZ := ⟨[], [(3, qOc)], [], false⟩
theorem qVp : qM vHm := zL zK ⟨vAw, trivial⟩
theorem yZ5 : qF prog 1000 0 23 (qC (qD f193) 0) qOc := lp (A := qZq) qOc (fun d => d.2.1) yK5 zPp zNq qVp zJ
def qW8 : Nat × zH := zP 193 [.c (.dat false zN), .fn 281 [[.int .i64]]] (.c (.own zN)) (fun k d => qNr k d.1 d.2.1) (fun x => (x, ()))
theorem yZe : zI prog qW8 := fA (rs := .c (.own zN)) f193 qZq (fun d => d.1) qVp (loops1 yZ5)
def zKk : Nat × zH := zP 252 [.c (.dat false zN), .c (.int .i64)] (.c (.own zN)) (fun k d => zM3 k d.1 d.2.1) (fun x => (x, ()))
theorem qOp : zI prog zKk := fA (rs := .c (.own zN)) f252 ⟨[], [], [], false⟩ (fun d => d.1) (zL (l := [qW8]) zK ⟨yZe, trivial⟩) zJ
def qD1 : Nat × zH := zP 299 [.agg vS, .ptr vS] (.c (.bool)) (fun k d => (zPm (qM5 k) d)) (fun x => (x, ()))
theorem yS9 : zI prog qD1 := fA (rs := .c (.bool)) f299 ⟨[], [], [], false⟩ (fun d => d.1) (zL (l := []) zK trivial) zJ
def yNi : zM := ⟨[(0, .c (.dat false zN)), (1, .c (.lit (.fn 299 [1001000]))), (7, .c (.int .i64)), (8, .c (.int .i64))], [.robox zBu], []⟩
def qZx : zM := ⟨[], [], []⟩
def yHn : zM := ⟨[(4, .c (.int .i64))], [], []⟩
def qRi (f : qMa) (d : yNi.den) : Option (Unit ⊕ Int) := (zG8 (f d.1.1.1 d.1.2.2.1.1 d.1.2.2.2.1.1) d.2.1)
def qDz : qG := ⟨[yNi], [(.exit 0, qZx), (.ret, yHn)], (Unit ⊕ Int), fun k d => qRi (zJu k k) d, fun b x _ K => match x with | .inl x => K (.exit 0) (zU b qZx ((), ())) | .inr x => K .ret (zU b yHn (((x, ()), ()), ()))⟩
def yXl : qA := ⟨prog, fun _ => false, qP [qD1]⟩
def qYl : zZ := ⟨[], [(2, qDz)], [], false⟩
theorem qY5 : qM yXl := zL zK ⟨yS9, trivial⟩
theorem vC9 : qF prog 1000 0 19 (qC (qD f148) 0) qDz := lp (A := qYl) qDz (fun d => match d with | .inl d => .inl () | .inr d => .inr d.1.1.1) qRi zJu zL3 qY5 zJ
def qPm : Nat × zH := zP 148 [.c (.dat false zN), .fn 299 [vS]] (.c (.int .i64)) (fun k d => (zDf (qO0 k) d)) (fun x => (x, ()))
theorem vFp : zI prog qPm := fA (rs := .c (.int .i64)) f148 qYl (fun d => d.1) qY5 (loops1 vC9)
def yFz : Nat × zH := zP 177 [.c (.dat false zN), .fn 299 [vS]] (.c (.bool)) (fun k d => (zDf (zXw k) d)) (fun x => (x, ()))
theorem yTe : zI prog yFz := fA (rs := .c (.bool)) f177 ⟨[], [], [], false⟩ (fun d => d.1) (zL (l := [qPm]) zK ⟨vFp, trivial⟩) zJ
def qHf : Nat × zH := yS 298 [.agg vS, .ptr true [.map], .ptr false [.p (.dat false zN)]] (.c (.bool)) [[.map]] 0 (fun k d => (qFn (qIw k) d)) (fun x => (x.1, x.2, ()))
theorem vAp : zI prog qHf := fX (rs := .c (.bool)) (os := [[.map]]) (ns := 0) f298 ⟨[], [], [], false⟩ 3 (fun d => (d.1, d.2.1)) (zL (l := [yFz]) zK ⟨yTe, trivial⟩) zJ
def yIv : zM := ⟨[(1, .c (.lit (.fn 298 [1001000, 1001002]))), (5, .c (.lit (.osl 1001003 none))), (8, .c (.dat false zN)), (9, .c (.int .i64)), (10, .c (.int .i64))], [.box true [.lit (.map 1001001)], .imap, .robox [.dat false zN], .arr true zN], [(5, none, zN, false)]⟩
def qT2 : zM := ⟨[(1, .c (.lit (.fn 298 [1001000, 1001002]))), (5, .c (.lit (.osl 1001003 none)))], [.box true [.lit (.map 1001001)], .imap, .robox [.dat false zN], .arr true zN], []⟩
def qTf (f : qAu) (d : yIv.den) : Option zTk := f d.1.2.2.1.1 d.1.2.2.2.1.1 d.1.2.2.2.2.1.1 d.2.2.1 d.2.2.2.1.1 d.2.2.2.2.1
def qNk : qG := ⟨[yIv], [(.exit 0, qT2)], zTk, fun k d => qTf (zKa k k) d, fun b x _ K => K (.exit 0) (zU b qT2 (((), (), ()), ((), x.1, (x.2.1, ()), x.2.2, ())))⟩
def vFn : qA := ⟨prog, fun _ => false, qP [qHf]⟩
def yN8 : zZ := ⟨[], [(3, qNk)], [], false⟩
theorem yFh : qM vFn := zL zK ⟨vAp, trivial⟩
theorem yPc : qF prog 1000 2 23 (qC (qD f193) 0) qNk := lp (A := yN8) qNk (fun d => (d.2.2.1, d.2.2.2.1.1, d.2.2.2.2.1)) qTf zKa zK2 yFh zJ
def yHw : Nat × zH := yS 193 [.c (.p (.dat false zN)), .fn 298 [(true, [.map]), (false, [.p (.dat false zN)])]] (.c (.own zN)) [[.map]] 0 (fun k d => qFd k d.1 d.2.1 d.2.2.1) (fun x => (x.1, x.2, ()))
theorem ySr : zI prog yHw := fX (rs := .c (.own zN)) (os := [[.map]]) (ns := 0) f193 yN8 2 (fun d => (d.1, d.2.1)) yFh (loops1 yPc)
def zQj : Nat × zH := zP 290 [.c (.dat false zN), .c (.int .i64)] (.c (.own zN)) (fun k d => zQe k d.1 d.2.1) (fun x => (x, ()))
theorem qVq : zI prog zQj := fA (rs := .c (.own zN)) f290 ⟨[], [], [], false⟩ (fun d => d.1) (zL (l := [zKk, yHw]) zK ⟨qOp, ySr, trivial⟩) zJ
def zSy : Nat × zH := zP 173 [.agg zAr, .agg vS] (.c (.bool)) (fun k d => (zFr (zI5 k) d)) (fun x => (x, ()))
theorem qC8 : zI prog zSy := fA (rs := .c (.bool)) f173 ⟨[], [], [], false⟩ (fun d => d.1) (zL (l := []) zK trivial) zJ
def zZ7 : Nat × zH := zP 300 [.agg vS, .ptr zAr] (.c (.bool)) (fun k d => (zFr (qG8 k) d)) (fun x => (x, ()))
theorem vHf : zI prog zZ7 := fA (rs := .c (.bool)) f300 ⟨[], [], [], false⟩ (fun d => d.1) (zL (l := [zSy]) zK ⟨qC8, trivial⟩) zJ
def qYj : zM := ⟨[(0, .c (.dat false zN)), (1, .c (.lit (.fn 300 [1001000]))), (7, .c (.int .i64)), (8, .c (.int .i64))], [.robox zCq], []⟩
def qSa : zM := ⟨[], [], []⟩
def yIo : zM := ⟨[(4, .c (.int .i64))], [], []⟩
def qQd (f : qBn) (d : qYj.den) : Option (Unit ⊕ Int) := (jK (f d.1.1.1 d.1.2.2.1.1 d.1.2.2.2.1.1) d.2.1)
def qId : qG := ⟨[qYj], [(.exit 0, qSa), (.ret, yIo)], (Unit ⊕ Int), fun k d => qQd (zQc k k) d, fun b x _ K => match x with | .inl x => K (.exit 0) (zU b qSa ((), ())) | .inr x => K .ret (zU b yIo (((x, ()), ()), ()))⟩
def ySs : qA := ⟨prog, fun _ => false, qP [zZ7]⟩
def qR6 : zZ := ⟨[], [(2, qId)], [], false⟩
theorem yJc : qM ySs := zL zK ⟨vHf, trivial⟩
theorem vD6 : qF prog 1000 0 19 (qC (qD f148) 0) qId := lp (A := qR6) qId (fun d => match d with | .inl d => .inl () | .inr d => .inr d.1.1.1) qQd zQc zM6 yJc zJ
def qYe : Nat × zH := zP 148 [.c (.dat false zN), .fn 300 [zAr]] (.c (.int .i64)) (fun k d => (zEh (qDf k) d)) (fun x => (x, ()))
theorem vE4 : zI prog qYe := fA (rs := .c (.int .i64)) f148 qR6 (fun d => d.1) yJc (loops1 vD6)
def yDl : Nat × zH := zP 177 [.c (.dat false zN), .fn 300 [zAr]] (.c (.bool)) (fun k d => (zEh (zWd k) d)) (fun x => (x, ()))
theorem yTd : zI prog yDl := fA (rs := .c (.bool)) f177 ⟨[], [], [], false⟩ (fun d => d.1) (zL (l := [qYe]) zK ⟨vE4, trivial⟩) zJ
def qP9 : zM := ⟨[(4, .c (.lit (.ptr 1001000 0))), (5, .c (.lit (.ptr 1001001 0))), (15, .c (.dat false zN)), (16, .c (.int .i64)), (17, .c (.int .i64))], [.box true [.lit .nsl, .lit .nsl, .lit .nsl], .box true qE2, .arr true (.int .i64), .arr true (.int .i64), .mat], []⟩
def qWh : zM := ⟨[(4, .c (.lit (.ptr 1001000 0))), (5, .c (.lit (.ptr 1001001 0)))], [.box true [.lit .nsl, .lit .nsl, .lit .nsl], .box true qE2, .arr true (.int .i64), .arr true (.int .i64), .mat], []⟩
def yLj (f : qHt) (d : qP9.den) : Option zX7 := f d.1.2.2.1.1 d.1.2.2.2.1.1 d.1.2.2.2.2.1.1 d.2.2.2.1 d.2.2.2.2.1 d.2.2.2.2.2.1
def qJn : qG := ⟨[qP9], [(.exit 0, qWh)], zX7, fun k d => yLj (zJs k k) d, fun b x _ K => K (.exit 0) (zU b qWh (((), (), ()), ((), (), x.1, x.2.1, x.2.2, ())))⟩
def vF4 : qA := ⟨prog, fun _ => false, qP [zI3, zQb]⟩
def yIi : zZ := ⟨[], [(3, qJn)], [], false⟩
theorem qWq : qM vF4 := zL zK ⟨qGe, yB3, trivial⟩
theorem yZs : qF prog 1000 0 84 (qC (qD f292) 0) qJn := lp (A := yIi) qJn (fun d => (d.2.2.2.1, d.2.2.2.2.1, d.2.2.2.2.2.1)) yLj zJs zNk qWq zJ
def qG1 : Nat × zH := zP 292 [.c (.int .i64), .c (.dat false zN)] (.agg [.own (.int .i64), .own (.int .i64), .mat]) (fun k d => zSu k d.1 d.2.1) (fun x => (x.1, x.2.1, x.2.2, ()))
theorem yQs : zI prog qG1 := fA (rs := .agg [.own (.int .i64), .own (.int .i64), .mat]) f292 yIi (fun d => (d.1, d.2.1, d.2.2.1)) qWq (loops1 yZs)
def qNy : Nat × zH := zP 293 [.agg vS, .ptr [.int .i64]] (.c (.bool)) (fun k d => (zDf (qMs k) d)) (fun x => (x, ()))
theorem yV0 : zI prog qNy := fA (rs := .c (.bool)) f293 ⟨[], [], [], false⟩ (fun d => d.1) (zL (l := []) zK trivial) zJ
def qP7 : zM := ⟨[(0, .c (.dat false zN)), (1, .c (.lit (.fn 293 [1001000]))), (7, .c (.int .i64)), (8, .c (.int .i64))], [.robox [.int .i64]], []⟩
def yBm : zM := ⟨[], [], []⟩
def yLq : zM := ⟨[(4, .c (.int .i64))], [], []⟩
def yF0 (f : qI6) (d : qP7.den) : Option (Unit ⊕ Int) := f d.1.1.1 d.1.2.2.1.1 d.1.2.2.2.1.1 d.2.1.1
def qAd : qG := ⟨[qP7], [(.exit 0, yBm), (.ret, yLq)], (Unit ⊕ Int), fun k d => yF0 (zQa k k) d, fun b x _ K => match x with | .inl x => K (.exit 0) (zU b yBm ((), ())) | .inr x => K .ret (zU b yLq (((x, ()), ()), ()))⟩
def vD0 : qA := ⟨prog, fun _ => false, qP [qNy]⟩
def yG3 : zZ := ⟨[], [(2, qAd)], [], false⟩
theorem qSc : qM vD0 := zL zK ⟨yV0, trivial⟩
theorem yWa : qF prog 1000 0 19 (qC (qD f148) 0) qAd := lp (A := yG3) qAd (fun d => match d with | .inl d => .inl () | .inr d => .inr d.1.1.1) yF0 zQa zM1 qSc zJ
def qQl : Nat × zH := zP 148 [.c (.dat false zN), .fn 293 [[.int .i64]]] (.c (.int .i64)) (fun k d => qAt k d.1 d.2.1) (fun x => (x, ()))
theorem yP5 : zI prog qQl := fA (rs := .c (.int .i64)) f148 yG3 (fun d => d.1) qSc (loops1 yWa)
def qFu : Nat × zH := zP 177 [.c (.dat false zN), .fn 293 [[.int .i64]]] (.c (.bool)) (fun k d => zUw k d.1 d.2.1) (fun x => (x, ()))
theorem yR3 : zI prog qFu := fA (rs := .c (.bool)) f177 ⟨[], [], [], false⟩ (fun d => d.1) (zL (l := [qQl]) zK ⟨yP5, trivial⟩) zJ
def yFp : zM := ⟨[(5, .c (.int .i64)), (12, .c (.dat false (.int .i64))), (13, .c (.int .i64)), (14, .c (.int .i64))], [], []⟩
def qQw : zM := ⟨[(5, .c (.int .i64))], [], []⟩
def qPh (f : Int → List Int → Int → Int → Option Int) (d : yFp.den) : Option Int := f d.1.1.1 d.1.2.1.1 d.1.2.2.1.1 d.1.2.2.2.1.1
def qEb : qG := ⟨[yFp], [(.exit 0, qQw)], Int, fun k d => qPh (zLt k k) d, fun b x _ K => K (.exit 0) (zU b qQw (((x, ()), ()), ()))⟩
def yS2 : qA := ⟨prog, fun _ => false, qP []⟩
def yEr : zZ := ⟨[], [(3, qEb)], [], false⟩
theorem yDp : qM yS2 := zL zK trivial
theorem yVg : qF prog 1000 0 23 (qC (qD f301) 0) qEb := lp (A := yEr) qEb (fun d => d.1.1.1) qPh zLt zLd yDp zJ
def qI7 : Nat × zH := zP 301 [.agg zAr, .c (.int .i64)] (.c (.int .i64)) (fun k d => (zEh (zTx k) d)) (fun x => (x, ()))
theorem yRp : zI prog qI7 := fA (rs := .c (.int .i64)) f301 yEr (fun d => d.1) yDp (loops1 yVg)
def zU7 : Nat × zH := zP 302 [.c (.int .i64), .c (.int .i64)] (.c (.bool)) (fun k d => zJt k d.1 d.2.1) (fun x => (x, ()))
theorem yIw : zI prog zU7 := fA (rs := .c (.bool)) f302 ⟨[], [], [], false⟩ (fun d => d.1) (zL (l := []) zK trivial) zJ
def qFs : Nat × zH := zP 303 [.agg vS, .ptr [.int .i64], .ptr zD1, .ptr zT9, .ptr [.int .i64], .ptr zAr] (.c (.bool)) (fun k d => (yTz (qE0 k) d)) (fun x => (x, ()))
theorem yQj : zI prog qFs := fA (rs := .c (.bool)) f303 ⟨[], [], [], false⟩ (fun d => d.1) (zL (l := [zPw, zU7]) zK ⟨qJe, yIw, trivial⟩) zJ
def yKx : zM := ⟨[(0, .c (.dat false zN)), (1, .c (.lit (.fn 303 [1001000, 1001001, 1001002, 1001003, 1001004]))), (7, .c (.int .i64)), (8, .c (.int .i64))], [.robox [.int .i64], .robox [.int .i64, .int .i64, .int .i64], .robox qN0, .robox [.int .i64], .robox zCq], []⟩
def yCo : zM := ⟨[], [], []⟩
def yE2 : zM := ⟨[(4, .c (.int .i64))], [], []⟩
def yDm (f : zZz) (d : yKx.den) : Option (Unit ⊕ Int) := (jK (f d.1.1.1 d.1.2.2.1.1 d.1.2.2.2.1.1 d.2.1.1 d.2.2.1.1 d.2.2.1.2.1 d.2.2.1.2.2.1 d.2.2.2.1.1 d.2.2.2.1.2.1 d.2.2.2.1.2.2.1 d.2.2.2.2.1.1) d.2.2.2.2.2.1)
def qMk : qG := ⟨[yKx], [(.exit 0, yCo), (.ret, yE2)], (Unit ⊕ Int), fun k d => yDm (zRq k k) d, fun b x _ K => match x with | .inl x => K (.exit 0) (zU b yCo ((), ())) | .inr x => K .ret (zU b yE2 (((x, ()), ()), ()))⟩
def vFv : qA := ⟨prog, fun _ => false, qP [qFs]⟩
def qY4 : zZ := ⟨[], [(2, qMk)], [], false⟩
theorem qXm : qM vFv := zL zK ⟨yQj, trivial⟩
theorem vCt : qF prog 1000 0 19 (qC (qD f148) 0) qMk := lp (A := qY4) qMk (fun d => match d with | .inl d => .inl () | .inr d => .inr d.1.1.1) yDm zRq zMo qXm zJ
def qSy : Nat × zH := zP 148 [.c (.dat false zN), .fn 303 [[.int .i64], zD1, zT9, [.int .i64], zAr]] (.c (.int .i64)) (fun k d => (qFi (qHc k) d)) (fun x => (x, ()))
theorem yPz : zI prog qSy := fA (rs := .c (.int .i64)) f148 qY4 (fun d => d.1) qXm (loops1 vCt)
def qAc : Nat × zH := zP 177 [.c (.dat false zN), .fn 303 [[.int .i64], zD1, zT9, [.int .i64], zAr]] (.c (.bool)) (fun k d => (qFi (zXx k) d)) (fun x => (x, ()))
theorem yO5 : zI prog qAc := fA (rs := .c (.bool)) f177 ⟨[], [], [], false⟩ (fun d => d.1) (zL (l := [qSy]) zK ⟨yPz, trivial⟩) zJ
def yHr : zM := ⟨[(3, .c (.dat false zN)), (4, .c (.lit (.ptr 1001000 0))), (5, .c (.lit (.ptr 1001001 0))), (6, .c (.lit (.ptr 1001002 0))), (9, .c (.lit (.ptr 1001003 0))), (10, .c (.lit (.ptr 1001004 0))), (11, .c (.int .i64)), (39, .c (.dat false (.int .i64))), (40, .c (.int .i64)), (41, .c (.int .i64))], [.box true qN0, .box true zCq, .box true [.int .i64], .box true [.int .i64, .int .i64, .int .i64], .box true [.int .i64]], []⟩
def qRx : zM := ⟨[(3, .c (.dat false zN)), (4, .c (.lit (.ptr 1001000 0))), (5, .c (.lit (.ptr 1001001 0))), (6, .c (.lit (.ptr 1001002 0))), (9, .c (.lit (.ptr 1001003 0))), (10, .c (.lit (.ptr 1001004 0))), (11, .c (.int .i64))], [.box true qN0, .box true zCq, .box true [.int .i64], .box true [.int .i64, .int .i64, .int .i64], .box true [.int .i64]], []⟩
def yL8 (f : qEj) (d : yHr.den) : Option zSd := (jK (f d.1.1.1 d.1.2.2.2.2.2.2.1.1 d.1.2.2.2.2.2.2.2.1.1 d.1.2.2.2.2.2.2.2.2.1.1 d.1.2.2.2.2.2.2.2.2.2.1.1 d.2.1.1 d.2.1.2.1 d.2.1.2.2.1) d.2.2.1) d.2.2.2.1.1 d.2.2.2.2.1.1 d.2.2.2.2.1.2.1 d.2.2.2.2.1.2.2.1 d.2.2.2.2.2.1.1
def qH1 : qG := ⟨[yHr], [(.exit 0, qRx)], zSd, fun k d => yL8 (zIq k k) d, fun b x _ K => K (.exit 0) (zU b qRx (((x.1, ()), (), (), (), (), (), (x.2.1, ()), ()), ((x.2.2.1, x.2.2.2.1, x.2.2.2.2.1, ()), (yQ5 x ()), (x.2.2.2.2.2.2.2.2.2.1, ()), (x.2.2.2.2.2.2.2.2.2.2.1, x.2.2.2.2.2.2.2.2.2.2.2.1, x.2.2.2.2.2.2.2.2.2.2.2.2.1, ()), (x.2.2.2.2.2.2.2.2.2.2.2.2.2, ()), ())))⟩
def yZg : qA := ⟨prog, fun _ => false, qP [qI7, zU7, qAc]⟩
def yEt : zZ := ⟨[], [(7, qH1)], [], false⟩
theorem qWi : qM yZg := zL zK ⟨yRp, yIw, yO5, trivial⟩
theorem yU5 : qF prog 1000 0 59 (qC (qD f294) 0) qH1 := lp (A := yEt) qH1 (fun d => (d.1.1.1, d.1.2.2.2.2.2.2.1.1, d.2.1.1, d.2.1.2.1, d.2.1.2.2.1, (jF d.2.2.1 (d.2.2.2.1.1, d.2.2.2.2.1.1, d.2.2.2.2.1.2.1, d.2.2.2.2.1.2.2.1, d.2.2.2.2.2.1.1)))) yL8 zIq zNs qWi zJ
def qF3 : Nat × zH := zP 294 [.agg zT9, .agg zAr, .c (.int .i64), .c (.dat false zN)] (.c (.bool)) (fun k d => (qFn (zYj k) d)) (fun x => (x, ()))
theorem vFi : zI prog qF3 := fA (rs := .c (.bool)) f294 yEt (fun d => d.1) qWi (loops1 yU5)
def yIb : zM := ⟨[(1, .c (.dat false zN)), (2, .c (.lit (.ptr 1001000 0))), (5, .c (.lit (.ptr 1001001 0))), (6, .c (.lit (.osl 1001005 none))), (16, .c (.int .i64)), (17, .c (.int .i64))], [.box true zCq, .box true qE2, .arr true (.int .i64), .arr true (.int .i64), .mat, .arr true (.int .i64)], [(6, none, (.int .i64), false)]⟩
def yL5 : zM := ⟨[(6, .c (.lit (.osl 1001000 none)))], [.arr true (.int .i64)], []⟩
def qXy (f : qK9) (d : yIb.den) : Option (List Int) := (jK (f d.1.1.1 d.1.2.2.2.2.1.1 d.1.2.2.2.2.2.1.1) d.2.1) d.2.2.2.1 d.2.2.2.2.1 d.2.2.2.2.2.1 d.2.2.2.2.2.2.1
def qCs : qG := ⟨[yIb], [(.exit 0, yL5)], (List Int), fun k d => qXy (zMp k k) d, fun b x _ K => K (.exit 0) (zU b yL5 (((), ()), (x, ())))⟩
def vCj : qA := ⟨prog, fun _ => false, qP [qG1, qFu, qF3]⟩
def qRv : zZ := ⟨[], [(4, qCs)], [], false⟩
theorem yNy : qM vCj := zL zK ⟨yQs, yR3, vFi, trivial⟩
theorem yXn : qF prog 1000 0 37 (qC (qD f278) 0) qCs := lp (A := qRv) qCs (fun d => d.2.1) qXy zMp zJn yNy zJ
def zT6 : Nat × zH := zP 278 [.agg zAr, .c (.dat false zN)] (.c (.own (.int .i64))) (fun k d => (zEh (zH7 k) d)) (fun x => (x, ()))
theorem qX9 : zI prog zT6 := fA (rs := .c (.own (.int .i64))) f278 qRv (fun d => d.1) yNy (loops1 yXn)
def zO1 : Nat × zH := zP 291 [.agg zAr, .c (.dat false zN)] (.c (.bool)) (fun k d => (zEh (zHq k) d)) (fun x => (x, ()))
theorem yJj : zI prog zO1 := fA (rs := .c (.bool)) f291 ⟨[], [], [], false⟩ (fun d => d.1) (zL (l := [yDl, zT6]) zK ⟨yTd, qX9, trivial⟩) zJ
def qFf : Nat × zH := zP 283 [.agg vS, .ptr zAr] (.c (.bool)) (fun k d => (zFr (qHh k) d)) (fun x => (x, ()))
theorem vEl : zI prog qFf := fA (rs := .c (.bool)) f283 ⟨[], [], [], false⟩ (fun d => d.1) (zL (l := [zSy]) zK ⟨qC8, trivial⟩) zJ
def yFd : zM := ⟨[(0, .c (.dat false zN)), (1, .c (.lit (.fn 283 [1001000]))), (7, .c (.int .i64)), (8, .c (.int .i64))], [.robox zCq], []⟩
def yGk : zM := ⟨[], [], []⟩
def yMc : zM := ⟨[(4, .c (.int .i64))], [], []⟩
def yOf (f : qMi) (d : yFd.den) : Option (Unit ⊕ Int) := (jK (f d.1.1.1 d.1.2.2.1.1 d.1.2.2.2.1.1) d.2.1)
def qEr : qG := ⟨[yFd], [(.exit 0, yGk), (.ret, yMc)], (Unit ⊕ Int), fun k d => yOf (zPc k k) d, fun b x _ K => match x with | .inl x => K (.exit 0) (zU b yGk ((), ())) | .inr x => K .ret (zU b yMc (((x, ()), ()), ()))⟩
def vG1 : qA := ⟨prog, fun _ => false, qP [qFf]⟩
def yAw : zZ := ⟨[], [(2, qEr)], [], false⟩
theorem qT7 : qM vG1 := zL zK ⟨vEl, trivial⟩
theorem yZ1 : qF prog 1000 0 19 (qC (qD f148) 0) qEr := lp (A := yAw) qEr (fun d => match d with | .inl d => .inl () | .inr d => .inr d.1.1.1) yOf zPc zMy qT7 zJ
def qZz : Nat × zH := zP 148 [.c (.dat false zN), .fn 283 [zAr]] (.c (.int .i64)) (fun k d => (zEh (qAl k) d)) (fun x => (x, ()))
theorem yWu : zI prog qZz := fA (rs := .c (.int .i64)) f148 yAw (fun d => d.1) qT7 (loops1 yZ1)
def qBd : Nat × zH := zP 177 [.c (.dat false zN), .fn 283 [zAr]] (.c (.bool)) (fun k d => (zEh (zXz k) d)) (fun x => (x, ()))
theorem yYb : zI prog qBd := fA (rs := .c (.bool)) f177 ⟨[], [], [], false⟩ (fun d => d.1) (zL (l := [qZz]) zK ⟨yWu, trivial⟩) zJ
def qL9 : Nat × zH := zP 160 [.agg zD1] (.c (.bool)) (fun k d => qD7 k d.1 d.2.1 d.2.2.1) (fun x => (x, ()))
theorem vCf : zI prog qL9 := fA (rs := .c (.bool)) f160 ⟨[], [], [], false⟩ (fun d => d.1) (zL (l := [qH9]) zK ⟨yKt, trivial⟩) zJ
def yMu : zM := ⟨[(0, .c (.dat false qZ)), (1, .c (.lit (.fn 160 []))), (7, .c (.int .i64)), (8, .c (.int .i64))], [], []⟩
def yDb : zM := ⟨[], [], []⟩
def yGg : zM := ⟨[(4, .c (.int .i64))], [], []⟩
def yA4 (f : qEo) (d : yMu.den) : Option (Unit ⊕ Int) := f d.1.1.1 d.1.2.2.1.1 d.1.2.2.2.1.1
def qLb : qG := ⟨[yMu], [(.exit 0, yDb), (.ret, yGg)], (Unit ⊕ Int), fun k d => yA4 (zPv k k) d, fun b x _ K => match x with | .inl x => K (.exit 0) (zU b yDb ((), ())) | .inr x => K .ret (zU b yGg (((x, ()), ()), ()))⟩
def yT2 : qA := ⟨prog, fun _ => false, qP [qL9]⟩
def qPu : zZ := ⟨[], [(2, qLb)], [], false⟩
theorem qWl : qM yT2 := zL zK ⟨vCf, trivial⟩
theorem yO4 : qF prog 1000 0 19 (qC (qD f218) 0) qLb := lp (A := qPu) qLb (fun d => match d with | .inl d => .inl () | .inr d => .inr d.1.1.1) yA4 zPv zI8 qWl zJ
def yB4 : Nat × zH := zP 218 [.c (.dat false qZ), .c (.fn 160)] (.c (.int .i64)) (fun k d => qDe k d.1) (fun x => (x, ()))
theorem vCv : zI prog yB4 := fA (rs := .c (.int .i64)) f218 qPu (fun d => d.1) qWl (loops1 yO4)
def qZ8 : Nat × zH := zP 162 [.c (.dat false qZ), .c (.fn 160)] (.c (.bool)) (fun k d => zZd k d.1) (fun x => (x, ()))
theorem vE5 : zI prog qZ8 := fA (rs := .c (.bool)) f162 ⟨[], [], [], false⟩ (fun d => d.1) (zL (l := [yB4]) zK ⟨vCv, trivial⟩) zJ
def yIf : Nat × zH := zP 164 [.c (.int .i64)] (.c (.bool)) (fun k d => qKt k d.1) (fun x => (x, ()))
theorem yXf : zI prog yIf := fA (rs := .c (.bool)) f164 ⟨[], [], [], false⟩ (fun d => d.1) (zL (l := []) zK trivial) zJ
def qLl : Nat × zH := zP 219 [.c (.int .i64), .ptr [.fn 164]] (.c (.bool)) (fun k d => qBw k d.1) (fun x => (x, ()))
theorem vBb : zI prog qLl := fA (rs := .c (.bool)) f219 ⟨[], [], [], false⟩ (fun d => d.1) (zL (l := [yIf]) zK ⟨yXf, trivial⟩) zJ
def qQ4 : zM := ⟨[(0, .c (.dat false (.int .i64))), (1, .c (.lit (.fn 219 [1001000]))), (7, .c (.int .i64)), (8, .c (.int .i64))], [.robox [.lit (.fn 164 [])]], []⟩
def yDa : zM := ⟨[], [], []⟩
def qVu : zM := ⟨[(4, .c (.int .i64))], [], []⟩
def yE6 (f : qNg) (d : qQ4.den) : Option (Unit ⊕ Int) := f d.1.1.1 d.1.2.2.1.1 d.1.2.2.2.1.1
def zZ8 : qG := ⟨[qQ4], [(.exit 0, yDa), (.ret, qVu)], (Unit ⊕ Int), fun k d => yE6 (zO5 k k) d, fun b x _ K => match x with | .inl x => K (.exit 0) (zU b yDa ((), ())) | .inr x => K .ret (zU b qVu (((x, ()), ()), ()))⟩
def vDt : qA := ⟨prog, fun _ => false, qP [qLl]⟩
def qQ5 : zZ := ⟨[], [(2, zZ8)], [], false⟩
theorem yFr : qM vDt := zL zK ⟨vBb, trivial⟩
theorem vFq : qF prog 1000 0 19 (qC (qD f220) 0) zZ8 := lp (A := qQ5) zZ8 (fun d => match d with | .inl d => .inl () | .inr d => .inr d.1.1.1) yE6 zO5 zKg yFr zJ
def yJh : Nat × zH := zP 220 [.c (.dat false (.int .i64)), .fn 219 [[.fn 164]]] (.c (.int .i64)) (fun k d => qDt k d.1) (fun x => (x, ()))
theorem yP1 : zI prog yJh := fA (rs := .c (.int .i64)) f220 qQ5 (fun d => d.1) yFr (loops1 vFq)
def yC9 : Nat × zH := zP 168 [.c (.dat false (.int .i64)), .fn 219 [[.fn 164]]] (.c (.bool)) (fun k d => zWp k d.1) (fun x => (x, ()))
theorem vEt : zI prog yC9 := fA (rs := .c (.bool)) f168 ⟨[], [], [], false⟩ (fun d => d.1) (zL (l := [yJh]) zK ⟨yP1, trivial⟩) zJ
def zUk : Nat × zH := zP 165 [.c (.dat false (.int .i64)), .c (.int .i64), .c (.fn 164)] (.c (.bool)) (fun k d => zOj k d.1 d.2.1) (fun x => (x, ()))
theorem yN7 : zI prog zUk := fA (rs := .c (.bool)) f165 ⟨[], [], [], false⟩ (fun d => d.1) (zL (l := [yC9]) zK ⟨vEt, trivial⟩) zJ
def qR9 : zM := ⟨[(1, .c (.int .i64)), (2, .c (.lit (.fn 164 []))), (13, .c (.dat false (.sl (.int .i64)))), (14, .c (.int .i64)), (15, .c (.int .i64))], [], []⟩
def yG1 : zM := ⟨[], [], []⟩
def qYx : zM := ⟨[(6, .c (.bool))], [], []⟩
def qZb (f : qCt) (d : qR9.den) : Option (Unit ⊕ Bool) := f d.1.1.1 d.1.2.2.1.1 d.1.2.2.2.1.1 d.1.2.2.2.2.1.1
def qOm : qG := ⟨[qR9], [(.exit 0, yG1), (.ret, qYx)], (Unit ⊕ Bool), fun k d => qZb (zPl k k) d, fun b x _ K => match x with | .inl x => K (.exit 0) (zU b yG1 ((), ())) | .inr x => K .ret (zU b qYx (((x, ()), ()), ()))⟩
def yU7 : qA := ⟨prog, fun _ => false, qP [zUk]⟩
def qRy : zZ := ⟨[], [(4, qOm)], [], false⟩
theorem yI6 : qM yU7 := zL zK ⟨yN7, trivial⟩
theorem yPv : qF prog 1000 0 25 (qC (qD f163) 0) qOm := lp (A := qRy) qOm (fun d => match d with | .inl d => .inl () | .inr d => .inr d.1.1.1) qZb zPl zK1 yI6 zJ
def qWf : Nat × zH := zP 163 [.c (.dat false (.sl (.int .i64))), .c (.int .i64), .c (.fn 164)] (.c (.bool)) (fun k d => zW0 k d.1 d.2.1) (fun x => (x, ()))
theorem yWr : zI prog qWf := fA (rs := .c (.bool)) f163 qRy (fun d => d.1) yI6 (loops1 yPv)
def yM4 : Nat × zH := zP 166 [.c (.int .i64)] (.c (.bool)) (fun k d => zSk k d.1) (fun x => (x, ()))
theorem yY7 : zI prog yM4 := fA (rs := .c (.bool)) f166 ⟨[], [], [], false⟩ (fun d => d.1) (zL (l := []) zK trivial) zJ
def qJv : Nat × zH := zP 219 [.c (.int .i64), .ptr [.fn 166]] (.c (.bool)) (fun k d => qGl k d.1) (fun x => (x, ()))
theorem yRr : zI prog qJv := fA (rs := .c (.bool)) f219 ⟨[], [], [], false⟩ (fun d => d.1) (zL (l := [yM4]) zK ⟨yY7, trivial⟩) zJ
def yFs : zM := ⟨[(0, .c (.dat false (.int .i64))), (1, .c (.lit (.fn 219 [1001000]))), (7, .c (.int .i64)), (8, .c (.int .i64))], [.robox [.lit (.fn 166 [])]], []⟩
def yA7 : zM := ⟨[], [], []⟩
def yDw : zM := ⟨[(4, .c (.int .i64))], [], []⟩
def yM9 (f : qEf) (d : yFs.den) : Option (Unit ⊕ Int) := f d.1.1.1 d.1.2.2.1.1 d.1.2.2.2.1.1
def qDo : qG := ⟨[yFs], [(.exit 0, yA7), (.ret, yDw)], (Unit ⊕ Int), fun k d => yM9 (zRw k k) d, fun b x _ K => match x with | .inl x => K (.exit 0) (zU b yA7 ((), ())) | .inr x => K .ret (zU b yDw (((x, ()), ()), ()))⟩
def vHd : qA := ⟨prog, fun _ => false, qP [qJv]⟩
def qZs : zZ := ⟨[], [(2, qDo)], [], false⟩
theorem yAg : qM vHd := zL zK ⟨yRr, trivial⟩
theorem yQr : qF prog 1000 0 19 (qC (qD f220) 0) qDo := lp (A := qZs) qDo (fun d => match d with | .inl d => .inl () | .inr d => .inr d.1.1.1) yM9 zRw zKv yAg zJ
def qX6 : Nat × zH := zP 220 [.c (.dat false (.int .i64)), .fn 219 [[.fn 166]]] (.c (.int .i64)) (fun k d => qNx k d.1) (fun x => (x, ()))
theorem yXz : zI prog qX6 := fA (rs := .c (.int .i64)) f220 qZs (fun d => d.1) yAg (loops1 yQr)
def yAd : Nat × zH := zP 168 [.c (.dat false (.int .i64)), .fn 219 [[.fn 166]]] (.c (.bool)) (fun k d => zYm k d.1) (fun x => (x, ()))
theorem yXm : zI prog yAd := fA (rs := .c (.bool)) f168 ⟨[], [], [], false⟩ (fun d => d.1) (zL (l := [qX6]) zK ⟨yXz, trivial⟩) zJ
def qBs : Nat × zH := zP 165 [.c (.dat false (.int .i64)), .c (.int .i64), .c (.fn 166)] (.c (.bool)) (fun k d => zVr k d.1 d.2.1) (fun x => (x, ()))
theorem yXo : zI prog qBs := fA (rs := .c (.bool)) f165 ⟨[], [], [], false⟩ (fun d => d.1) (zL (l := [yAd]) zK ⟨yXm, trivial⟩) zJ
def qU1 : zM := ⟨[(1, .c (.int .i64)), (2, .c (.lit (.fn 166 []))), (13, .c (.dat false (.sl (.int .i64)))), (14, .c (.int .i64)), (15, .c (.int .i64))], [], []⟩
def yK6 : zM := ⟨[], [], []⟩
def yM2 : zM := ⟨[(6, .c (.bool))], [], []⟩
def yMq (f : qL2) (d : qU1.den) : Option (Unit ⊕ Bool) := f d.1.1.1 d.1.2.2.1.1 d.1.2.2.2.1.1 d.1.2.2.2.2.1.1
def qF5 : qG := ⟨[qU1], [(.exit 0, yK6), (.ret, yM2)], (Unit ⊕ Bool), fun k d => yMq (zQ1 k k) d, fun b x _ K => match x with | .inl x => K (.exit 0) (zU b yK6 ((), ())) | .inr x => K .ret (zU b yM2 (((x, ()), ()), ()))⟩
def vFb : qA := ⟨prog, fun _ => false, qP [qBs]⟩
def yI4 : zZ := ⟨[], [(4, qF5)], [], false⟩
theorem qTw : qM vFb := zL zK ⟨yXo, trivial⟩
theorem vGx : qF prog 1000 0 25 (qC (qD f163) 0) qF5 := lp (A := yI4) qF5 (fun d => match d with | .inl d => .inl () | .inr d => .inr d.1.1.1) yMq zQ1 zKb qTw zJ
def yM6 : Nat × zH := zP 163 [.c (.dat false (.sl (.int .i64))), .c (.int .i64), .c (.fn 166)] (.c (.bool)) (fun k d => zWz k d.1 d.2.1) (fun x => (x, ()))
theorem yS4 : zI prog yM6 := fA (rs := .c (.bool)) f163 yI4 (fun d => d.1) qTw (loops1 vGx)
def qVx : zM := ⟨[(0, .c (.dat false (.sl (.int .i64)))), (3, .c (.int .i64)), (7, .c (.dat false (.sl (.int .i64)))), (8, .c (.int .i64)), (9, .c (.int .i64)), (14, .c (.dat false (.int .i64))), (15, .c (.int .i64)), (16, .c (.int .i64))], [], []⟩
def yCx : zM := ⟨[(0, .c (.dat false (.sl (.int .i64)))), (7, .c (.dat false (.sl (.int .i64)))), (8, .c (.int .i64)), (9, .c (.int .i64))], [], []⟩
def yE4 : zM := ⟨[(2, .c (.bool))], [], []⟩
def yLi (f : qM2) (d : qVx.den) : Option zWh := f d.1.1.1 d.1.2.1.1 d.1.2.2.1.1 d.1.2.2.2.1.1 d.1.2.2.2.2.1.1 d.1.2.2.2.2.2.1.1 d.1.2.2.2.2.2.2.1.1 d.1.2.2.2.2.2.2.2.1.1
def qM0 : qG := ⟨[qVx], [(.exit 2, yCx), (.ret, yE4)], zWh, fun k d => yLi (zKi k k) d, fun b x _ K => match x with | .inl x => K (.exit 2) (zU b yCx (((x.1, ()), (x.2.1, ()), (x.2.2.1, ()), (x.2.2.2, ()), ()), ())) | .inr x => K .ret (zU b yE4 (((x, ()), ()), ()))⟩
def qPp : zM := ⟨[(0, .c (.dat false (.sl (.int .i64)))), (7, .c (.dat false (.sl (.int .i64)))), (8, .c (.int .i64)), (9, .c (.int .i64))], [], []⟩
def yIz : zM := ⟨[], [], []⟩
def qU6 : zM := ⟨[(2, .c (.bool))], [], []⟩
def yF7 (f : qOj) (d : qPp.den) : Option (Unit ⊕ Bool) := f d.1.1.1 d.1.2.1.1 d.1.2.2.1.1 d.1.2.2.2.1.1
def qBz : qG := ⟨[qPp], [(.exit 0, yIz), (.ret, qU6)], (Unit ⊕ Bool), fun k d => yF7 (zN2 k k) d, fun b x _ K => match x with | .inl x => K (.exit 0) (zU b yIz ((), ())) | .inr x => K .ret (zU b qU6 (((x, ()), ()), ()))⟩
def yPb : qA := ⟨prog, fun _ => false, qP []⟩
def qH0 : zZ := ⟨[], [(5, qM0), (2, qBz)], [], false⟩
theorem qN3 : qM yPb := zL zK trivial
theorem yTb : qF prog 1000 0 33 (qC (qC (qD f167) 0) 0) qM0 := lp (A := qH0) qM0 (fun d => match d with | .inl d => .inl (d.1.1.1, d.1.2.1.1, d.1.2.2.1.1, d.1.2.2.2.1.1) | .inr d => .inr d.1.1.1) yLi zKi zJ4 qN3 zJ
theorem vEd : qF prog 1000 0 33 (qC (qD f167) 0) qBz := lp (A := qH0) qBz (fun d => match d with | .inl d => .inl () | .inr d => .inr d.1.1.1) yF7 zN2 zK9 qN3 (loops1 yTb)
def qRa : Nat × zH := zP 167 [.c (.dat false (.sl (.int .i64)))] (.c (.bool)) (fun k d => zSr k d.1) (fun x => (x, ()))
theorem yUo : zI prog qRa := fA (rs := .c (.bool)) f167 qH0 (fun d => d.1) qN3 (loops1 vEd)
def zP5 : Nat × zH := zP 108 [.agg zAr] (.c (.bool)) (fun k d => (jK (zQ0 k) d)) (fun x => (x, ()))
theorem qXd : zI prog zP5 := fA (rs := .c (.bool)) f108 ⟨[], [], [], false⟩ (fun d => d.1) (zL (l := [qZ8, qWf, zUk, yM6, qRa]) zK ⟨vE5, yWr, yN7, yS4, yUo, trivial⟩) zJ
def yBq : zM := ⟨[(2, .c (.lit (.ptr 1001000 0))), (4, .c (.lit (.ptr 1001001 0))), (7, .c (.lit (.ptr 1001002 0))), (24, .c (.dat false zN)), (25, .c (.int .i64)), (26, .c (.int .i64))], [.box true zAh, .box true zS5, .box true zXi, .arr true qZ, .mat, .arr true (.int .i64), .mat], []⟩
def yNf : zM := ⟨[(2, .c (.lit (.ptr 1001000 0))), (4, .c (.lit (.ptr 1001001 0))), (7, .c (.lit (.ptr 1001002 0)))], [.box true zAh, .box true zS5, .box true zXi, .arr true qZ, .mat, .arr true (.int .i64), .mat], []⟩
def yH9 (f : qMn) (d : yBq.den) : Option zSo := (jK (f d.1.2.2.2.1.1 d.1.2.2.2.2.1.1 d.1.2.2.2.2.2.1.1) d.2.1) d.2.2.2.2.1 d.2.2.2.2.2.1 d.2.2.2.2.2.2.1 d.2.2.2.2.2.2.2.1
def qG9 : qG := ⟨[yBq], [(.exit 0, yNf)], zSo, fun k d => yH9 (zJl k k) d, fun b x _ K => K (.exit 0) (zU b yNf (((), (), (), ()), ((jF x ()), (), (), x.2.2.2.2.1, x.2.2.2.2.2.1, x.2.2.2.2.2.2.1, x.2.2.2.2.2.2.2, ())))⟩
def yU1 : qA := ⟨prog, fun _ => false, qP [qBd, zCe, zPw, zP5]⟩
def yK1 : zZ := ⟨[], [(6, qG9)], [], false⟩
theorem yG7 : qM yU1 := zL zK ⟨yYb, zE1, qJe, qXd, trivial⟩
theorem yWt : qF prog 1000 0 104 (qC (qD f253) 0) qG9 := lp (A := yK1) qG9 (fun d => (jF d.2.1 (d.2.2.2.2.1, d.2.2.2.2.2.1, d.2.2.2.2.2.2.1, d.2.2.2.2.2.2.2.1))) yH9 zJl zJy yG7 zJ
def zHx : Nat × zH := zP 253 [.agg zGd, .c (.dat false zN)] (.tup [(true, zBy), (false, qQ)]) (fun k d => (zEh (zDm k) d)) (fun x => (jQ x ()))
theorem qAw : zI prog zHx := fA (rs := .tup [(true, zBy), (false, qQ)]) f253 yK1 (fun d => (vE d)) yG7 (loops1 yWt)
def yCh : zM := ⟨[(3, .c (.lit (.ptr 1001000 0))), (6, .c (.lit (.ptr 1001001 0))), (7, .c (.lit (.ptr 1001002 0))), (15, .c (.lit (.osl 1001003 none))), (16, .c (.int .i64)), (17, .c (.int .i64))], [.box true zAh, .box true zBu, .box true zS5, .arr true zN], []⟩
def yFf : zM := ⟨[(3, .c (.lit (.ptr 1001000 0))), (6, .c (.lit (.ptr 1001001 0))), (7, .c (.lit (.ptr 1001002 0)))], [.box true zAh, .box true zBu, .box true zS5], []⟩
def yIm : zM := ⟨[(6, .c (.lit (.ptr 1001000 0))), (7, .c (.lit (.ptr 1001001 0))), (8, .c (.bool))], [.box true zBu, .box true zAh], []⟩
def qPt (f : qOi) (d : yCh.den) : Option zVj := (zG8 (jK (f d.1.2.2.2.2.1.1 d.1.2.2.2.2.2.1.1) d.2.1) d.2.2.1) d.2.2.2.2.1
def qGw : qG := ⟨[yCh], [(.exit 0, yFf), (.ret, yIm)], zVj, fun k d => qPt (zO2 k k) d, fun b x _ K => match x with | .inl x => K (.exit 0) (zU b yFf (((), (), (), ()), ((jF x ()), (qF8 x ()), (), ()))) | .inr x => K .ret (zU b yIm (((), (), (x.1, ()), ()), ((vHh x ()), (vDg x ()), ())))⟩
def yP9 : qA := ⟨prog, fun _ => false, qP [zQj, zO1, zHx]⟩
def yF3 : zZ := ⟨[], [(2, qGw)], [], false⟩
theorem yBa : qM yP9 := zL zK ⟨qVq, yJj, qAw, trivial⟩
theorem ySz : qF prog 1000 0 40 (qC (qD f276) 0) qGw := lp (A := yF3) qGw (fun d => match d with | .inl d => .inl (jF d.2.1 (jH d.2.2.1)) | .inr d => .inr (d.1.2.2.1.1, (zJi d.2.1 (wS d.2.2.1)))) qPt zO2 zLi yBa zJ
def qHd : Nat × zH := zP 276 [.agg zGd, .c (.dat true zN), .c (.int .i64)] (.tup [(true, zCs), (true, zBy), (false, [.bool])]) (fun k d => (zEv (zYw k) d)) (fun x => (zRf x ()))
theorem vGk : zI prog qHd := fA (rs := .tup [(true, zCs), (true, zBy), (false, [.bool])]) f276 yF3 (fun d => (zQ2 d)) yBa (loops1 ySz)
def yCq : zM := ⟨[(2, .c (.int .i64)), (6, .c (.lit (.ptr 1001000 0))), (7, .c (.dat true zN)), (8, .c (.lit (.osl 1001001 none)))], [.box true zAh, .arr true zN], [(8, none, zN, false)]⟩
def qQj : zM := ⟨[(6, .c (.lit (.ptr 1001000 0))), (7, .c (.dat true zN)), (8, .c (.lit (.osl 1001001 none)))], [.box true zAh, .arr true zN], []⟩
def qVd (f : qFq) (d : yCq.den) : Option zR9 := (jK (f d.1.1.1 d.1.2.2.1.1) d.2.1) d.2.2.1
def qHq : qG := ⟨[yCq], [(.ret, qQj)], zR9, fun k d => qVd (zQ4 k k) d, fun b x _ K => K .ret (zU b qQj (((), (x.1, ()), (), ()), ((zC8 x ()), x.2.2.2.2.2, ())))⟩
def vD2 : qA := ⟨prog, fun _ => false, qP [qHd, zDg]⟩
def yOc : zZ := ⟨[], [(2, qHq)], [], false⟩
theorem qRo : qM vD2 := zL zK ⟨vGk, zHp, trivial⟩
theorem yS3 : qF prog 1000 0 40 (qC (qD f248) 0) qHq := lp (A := yOc) qHq (fun d => (d.1.2.1.1, (jF d.2.1 d.2.2.1))) qVd zQ4 zLp qRo zJ
def qBa : Nat × zH := zP 248 [.agg zGd, .c (.dat true zN), .c (.int .i64)] (.tup [(true, zBy), (false, [.fro zN]), (false, [.own zN])]) (fun k d => (zEv (zSb k) d)) (fun x => (zF3 x ()))
theorem ySt : zI prog qBa := fA (rs := .tup [(true, zBy), (false, [.fro zN]), (false, [.own zN])]) f248 yOc (fun d => (zIw d)) qRo (loops1 yS3)
def yIj : zM := ⟨[(3, .c (.lit (.ptr 1001000 0))), (6, .c (.lit (.ptr 1001001 0))), (8, .c (.lit (.osl 1001002 none))), (10, .c (.lit (.ptr 1001003 0))), (18, .c (.lit (.osl 1001002 none))), (19, .c (.int .i64)), (20, .c (.int .i64)), (24, .c (.lit (.osl 1001002 none))), (25, .c (.int .i64)), (26, .c (.int .i64))], [.box true zAh, .box true zW1, .arr true zN, .box true zBu], []⟩
def qSb : zM := ⟨[(3, .c (.lit (.ptr 1001000 0))), (6, .c (.lit (.ptr 1001001 0))), (8, .c (.lit (.osl 1001002 none))), (18, .c (.lit (.osl 1001002 none))), (19, .c (.int .i64)), (20, .c (.int .i64))], [.box true zAh, .box true zW1, .arr true zN], []⟩
def yNe : zM := ⟨[(6, .c (.lit (.ptr 1001000 0))), (7, .c (.bool))], [.box true qXf], []⟩
def yDn (f : qGy) (d : yIj.den) : Option zU5 := (zG8 ((zPm (jK (f d.1.2.2.2.2.2.1.1 d.1.2.2.2.2.2.2.1.1 d.1.2.2.2.2.2.2.2.2.1.1 d.1.2.2.2.2.2.2.2.2.2.1.1) d.2.1) d.2.2.1) d.2.2.2.1) d.2.2.2.2.1)
def qNb : qG := ⟨[yIj], [(.exit 2, qSb), (.ret, yNe)], zU5, fun k d => yDn (zO4 k k) d, fun b x _ K => match x with | .inl x => K (.exit 2) (zU b qSb (((), (), (), (), (x.1, ()), (x.2.1, ()), ()), ((qFo x ()), (yOp x ()), x.2.2.2.2.2.2.2.2.2.2.2.2.2.2.2.2.2.2.2.2, ()))) | .inr x => K .ret (zU b yNe (((), (x.1, ()), ()), ((qG3 x ()), ())))⟩
def qW0 : zM := ⟨[(3, .c (.lit (.ptr 1001000 0))), (6, .c (.lit (.ptr 1001001 0))), (8, .c (.lit (.osl 1001002 none))), (18, .c (.lit (.osl 1001002 none))), (19, .c (.int .i64)), (20, .c (.int .i64))], [.box true zAh, .box true zW1, .arr true zN], []⟩
def qUp : zM := ⟨[(6, .c (.lit (.ptr 1001000 0)))], [.box true zW1], []⟩
def qWt : zM := ⟨[(6, .c (.lit (.ptr 1001000 0))), (7, .c (.bool))], [.box true qXf], []⟩
def yH7 (f : qH3) (d : qW0.den) : Option zYp := (zPm (jK (f d.1.2.2.2.2.1.1 d.1.2.2.2.2.2.1.1) d.2.1) d.2.2.1) d.2.2.2.1
def qJl : qG := ⟨[qW0], [(.exit 0, qUp), (.ret, qWt)], zYp, fun k d => yH7 (zRe k k) d, fun b x _ K => match x with | .inl x => K (.exit 0) (zU b qUp (((), ()), ((qLk x ()), ()))) | .inr x => K .ret (zU b qWt (((), (x.1, ()), ()), ((qG3 x ()), ())))⟩
def yX3 : qA := ⟨prog, fun _ => false, qP [zQj, zO1, zHx]⟩
def qK6 : zZ := ⟨[], [(6, qNb), (3, qJl)], [], false⟩
theorem qOr : qM yX3 := zL zK ⟨qVq, yJj, qAw, trivial⟩
theorem yPp : qF prog 1000 0 74 (qC (qC (qD f277) 0) 0) qNb := lp (A := qK6) qNb (fun d => match d with | .inl d => .inl (d.1.2.2.2.2.1.1, d.1.2.2.2.2.2.1.1, (jF d.2.1 (qIc d.2.2.1 d.2.2.2.1))) | .inr d => .inr (d.1.2.1.1, (jG d.2.1))) yDn zO4 zNe qOr zJ
theorem vEr : qF prog 1000 0 74 (qC (qD f277) 0) qJl := lp (A := qK6) qJl (fun d => match d with | .inl d => .inl (qNn d.2.1) | .inr d => .inr (d.1.2.1.1, (jG d.2.1))) yH7 zRe zM4 qOr (loops1 yPp)
def qEt : Nat × zH := zP 277 [.agg zGd, .c (.dat true zN), .c (.int .i64)] (.tup [(true, qQ7), (false, [.bool])]) (fun k d => (zEv (zTr k) d)) (fun x => (yZo x ()))
theorem yTt : zI prog qEt := fA (rs := .tup [(true, qQ7), (false, [.bool])]) f277 qK6 (fun d => (vAf d)) qOr (loops1 vEr)
def yNa : zM := ⟨[(2, .c (.int .i64)), (6, .c (.lit (.ptr 1001000 0))), (7, .c (.dat true zN)), (8, .c (.lit (.osl 1001001 none))), (33, .c (.lit (.osl 1001002 none))), (34, .c (.int .i64)), (35, .c (.int .i64))], [.box true zAh, .arr true zN, .arr true zN], [(8, none, zN, false)]⟩
def qTe : zM := ⟨[(2, .c (.int .i64)), (6, .c (.lit (.ptr 1001000 0))), (7, .c (.dat true zN)), (8, .c (.lit (.osl 1001001 none)))], [.box true zAh, .arr true zN], []⟩
def yIg (f : qBh) (d : yNa.den) : Option zTy := (jK (f d.1.1.1 d.1.2.2.1.1 d.1.2.2.2.2.2.1.1 d.1.2.2.2.2.2.2.1.1) d.2.1) d.2.2.1 d.2.2.2.1
def qJ4 : qG := ⟨[yNa], [(.exit 2, qTe)], zTy, fun k d => yIg (zE5 k k) d, fun b x _ K => K (.exit 2) (zU b qTe (((x.1, ()), (), (x.2.1, ()), (), ()), ((qFo x ()), x.2.2.2.2.2.2, ())))⟩
def yLk : zM := ⟨[(2, .c (.int .i64)), (6, .c (.lit (.ptr 1001000 0))), (7, .c (.dat true zN)), (8, .c (.lit (.osl 1001001 none)))], [.box true zAh, .arr true zN], [(8, none, zN, false)]⟩
def qYd : zM := ⟨[(6, .c (.lit (.ptr 1001000 0))), (7, .c (.dat true zN)), (8, .c (.lit (.osl 1001001 none)))], [.box true zAh, .arr true zN], []⟩
def qSn (f : qD8) (d : yLk.den) : Option zYt := (jK (f d.1.1.1 d.1.2.2.1.1) d.2.1) d.2.2.1
def qGz : qG := ⟨[yLk], [(.ret, qYd)], zYt, fun k d => qSn (zO7 k k) d, fun b x _ K => K .ret (zU b qYd (((), (x.1, ()), (), ()), ((zC8 x ()), x.2.2.2.2.2, ())))⟩
def yUz : qA := ⟨prog, fun _ => false, qP [qEt, zDg]⟩
def qFc : zZ := ⟨[], [(7, qJ4), (2, qGz)], [], false⟩
theorem qC1 : qM yUz := zL zK ⟨yTt, zHp, trivial⟩
theorem vCp : qF prog 1000 0 52 (qC (qC (qD f249) 0) 0) qJ4 := lp (A := qFc) qJ4 (fun d => (d.1.1.1, d.1.2.2.1.1, (jF d.2.1 d.2.2.1))) yIg zE5 zGj qC1 zJ
theorem vDd : qF prog 1000 0 52 (qC (qD f249) 0) qGz := lp (A := qFc) qGz (fun d => (d.1.2.1.1, (jF d.2.1 d.2.2.1))) qSn zO7 zL4 qC1 (loops1 vCp)
def qJg : Nat × zH := zP 249 [.agg zGd, .c (.dat true zN), .c (.int .i64)] (.tup [(true, zBy), (false, [.fro zN]), (false, [.own zN])]) (fun k d => (zEv (zYz k) d)) (fun x => (zF3 x ()))
theorem vG4 : zI prog qJg := fA (rs := .tup [(true, zBy), (false, [.fro zN]), (false, [.own zN])]) f249 qFc (fun d => (zIw d)) qC1 (loops1 vDd)
def qP5 : zM := ⟨[(2, .c (.int .i64)), (6, .c (.lit (.ptr 1001000 0))), (7, .c (.dat true zN)), (8, .c (.lit (.osl 1001001 none)))], [.box true zAh, .arr true zN], [(8, none, zN, false)]⟩
def yFo : zM := ⟨[(6, .c (.lit (.ptr 1001000 0))), (7, .c (.dat true zN)), (8, .c (.lit (.osl 1001001 none)))], [.box true zAh, .arr true zN], []⟩
def yMw (f : qIy) (d : qP5.den) : Option zZo := (jK (f d.1.1.1 d.1.2.2.1.1) d.2.1) d.2.2.1
def qIp : qG := ⟨[qP5], [(.ret, yFo)], zZo, fun k d => yMw (zRv k k) d, fun b x _ K => K .ret (zU b yFo (((), (x.1, ()), (), ()), ((zC8 x ()), x.2.2.2.2.2, ())))⟩
def yUu : qA := ⟨prog, fun _ => false, qP [qBa, qJg]⟩
def qTq : zZ := ⟨[], [(2, qIp)], [], false⟩
theorem yK0 : qM yUu := zL zK ⟨ySt, vG4, trivial⟩
theorem vGo : qF prog 1000 0 40 (qC (qD f212) 0) qIp := lp (A := qTq) qIp (fun d => (d.1.2.1.1, (jF d.2.1 d.2.2.1))) yMw zRv zWv yK0 zJ
def yAr : Nat × zH := zP 212 [.agg zGd, .c (.dat true zN), .c (.int .i64)] (.tup [(true, zBy), (false, [.fro zN]), (false, [.own zN])]) (fun k d => (zEv (zQ5 k) d)) (fun x => (zF3 x ()))
theorem vDu : zI prog yAr := fA (rs := .tup [(true, zBy), (false, [.fro zN]), (false, [.own zN])]) f212 qTq (fun d => (zIw d)) yK0 (loops1 vGo)
def yI7 : Nat × zH := zGo 279 false (.int .i64) (.own (.int .i64)) qL1
theorem yRq : zI prog yI7 := fC f279 ⟨[], [], [], false⟩ (zL (l := []) zK trivial) zJ
def qJf : Nat × zH := yS 280 [.agg vS, .ptr true [.own (.int .i64)]] (.c (.bool)) [zEu] 0 (fun k d => (zDf (qEi k) d)) (fun x => (x.1, x.2, ()))
theorem yQ2 : zI prog qJf := fX (rs := .c (.bool)) (os := [zEu]) (ns := 0) f280 ⟨[], [], [], false⟩ 2 (fun d => (d.1, d.2.1)) (zL (l := []) zK trivial) zJ
def yKp : zM := ⟨[(1, .c (.lit (.fn 280 [1001000]))), (5, .c (.lit (.osl 1001002 none))), (8, .c (.dat false zN)), (9, .c (.int .i64)), (10, .c (.int .i64))], [.box true [.lit (.osl 1001001 none)], .arr true (.int .i64), .arr true zN], [(5, none, zN, false)]⟩
def qSe : zM := ⟨[(1, .c (.lit (.fn 280 [1001000]))), (5, .c (.lit (.osl 1001002 none)))], [.box true [.lit (.osl 1001001 none)], .arr true (.int .i64), .arr true zN], []⟩
def yL0 (f : qKx) (d : yKp.den) : Option zUx := f d.1.2.2.1.1 d.1.2.2.2.1.1 d.1.2.2.2.2.1.1 d.2.2.1 d.2.2.2.1
def qA2 : qG := ⟨[yKp], [(.exit 0, qSe)], zUx, fun k d => yL0 (zJe k k) d, fun b x _ K => K (.exit 0) (zU b qSe (((), (), ()), ((), x.1, x.2, ())))⟩
def yRv : qA := ⟨prog, fun _ => false, qP [qJf]⟩
def yNk : zZ := ⟨[], [(3, qA2)], [], false⟩
theorem yA6 : qM yRv := zL zK ⟨yQ2, trivial⟩
theorem vGd : qF prog 1000 2 23 (qC (qD f193) 0) qA2 := lp (A := yNk) qA2 (fun d => (d.2.2.1, d.2.2.2.1)) yL0 zJe zKs yA6 zJ
def yJs : Nat × zH := yS 193 [.c (.p (.dat false zN)), .fn 280 [(true, [.own (.int .i64)])]] (.c (.own zN)) [zEu] 0 (fun k d => qFy k d.1 d.2.1) (fun x => (x.1, x.2, ()))
theorem vGp : zI prog yJs := fX (rs := .c (.own zN)) (os := [zEu]) (ns := 0) f193 yNk 2 (fun d => (d.1, d.2.1)) yA6 (loops1 vGd)
def zPq : Nat × zH := zP 251 [.c (.dat false zN), .c (.dat false (.int .i64))] (.c (.own zN)) (fun k d => zJc k d.1 d.2.1) (fun x => (x, ()))
theorem yD1 : zI prog zPq := fA (rs := .c (.own zN)) f251 ⟨[], [], [], false⟩ (fun d => d.1) (zL (l := [yI7, yJs]) zK ⟨yRq, vGp, trivial⟩) zJ
def yC2 : zM := ⟨[(3, .c (.lit (.ptr 1001000 0))), (6, .c (.lit (.osl 1001001 none))), (7, .c (.int .i64)), (8, .c (.lit (.osl 1001002 none))), (18, .c (.int .i64)), (19, .c (.int .i64))], [.box true zCq, .arr true (.int .i64), .arr true zN], [(6, none, (.int .i64), false)]⟩
def qYr : zM := ⟨[(3, .c (.lit (.ptr 1001000 0))), (6, .c (.lit (.osl 1001001 none))), (7, .c (.int .i64)), (8, .c (.lit (.osl 1001002 none)))], [.box true zCq, .arr true (.int .i64), .arr true zN], []⟩
def qUj (f : qI9) (d : yC2.den) : Option zTi := (jK (f d.1.2.2.1.1 d.1.2.2.2.2.1.1 d.1.2.2.2.2.2.1.1) d.2.1) d.2.2.1 d.2.2.2.1
def zTh : qG := ⟨[yC2], [(.exit 0, qYr)], zTi, fun k d => qUj (zHh k k) d, fun b x _ K => K (.exit 0) (zU b qYr (((), (), (x.1, ()), (), ()), ((zC8 x ()), x.2.2.2.2.2.1, x.2.2.2.2.2.2, ())))⟩
def qVz : zM := ⟨[(3, .c (.lit (.ptr 1001000 0))), (6, .c (.lit (.osl 1001001 none))), (7, .c (.int .i64)), (8, .c (.lit (.osl 1001002 none))), (42, .c (.lit (.osl 1001003 none))), (43, .c (.int .i64)), (44, .c (.int .i64))], [.box true zCq, .arr true (.int .i64), .arr true zN, .arr true (.int .i64)], []⟩
def qW1 : zM := ⟨[(3, .c (.lit (.ptr 1001000 0))), (6, .c (.lit (.osl 1001001 none))), (7, .c (.int .i64)), (8, .c (.lit (.osl 1001002 none)))], [.box true zCq, .arr true (.int .i64), .arr true zN], []⟩
def yLl (f : qCu) (d : qVz.den) : Option zUi := (jK (f d.1.2.2.1.1 d.1.2.2.2.2.2.1.1 d.1.2.2.2.2.2.2.1.1) d.2.1) d.2.2.1 d.2.2.2.1 d.2.2.2.2.1
def qGk : qG := ⟨[qVz], [(.exit 4, qW1)], zUi, fun k d => yLl (zJ6 k k) d, fun b x _ K => K (.exit 4) (zU b qW1 (((), (), (x.1, ()), (), ()), ((zC8 x ()), x.2.2.2.2.2.1, x.2.2.2.2.2.2, ())))⟩
def yH4 : zM := ⟨[(3, .c (.lit (.ptr 1001000 0))), (6, .c (.lit (.osl 1001001 none))), (7, .c (.int .i64)), (8, .c (.lit (.osl 1001002 none)))], [.box true zCq, .arr true (.int .i64), .arr true zN], []⟩
def yH6 : zM := ⟨[(6, .c (.lit (.osl 1001000 none))), (7, .c (.int .i64))], [.arr true (.int .i64)], []⟩
def qT6 (f : qL7) (d : yH4.den) : Option (Int × (List Int)) := (jK (f d.1.2.2.1.1) d.2.1) d.2.2.1 d.2.2.2.1
def zS2 : qG := ⟨[yH4], [(.ret, yH6)], (Int × (List Int)), fun k d => qT6 (zRn k k) d, fun b x _ K => K .ret (zU b yH6 (((), (x.1, ()), ()), (x.2, ())))⟩
def vBz : qA := ⟨prog, fun _ => false, qP [zKk, zZi, zPq, zT6]⟩
def zVq : zZ := ⟨[], [(3, zTh), (12, qGk), (7, zS2)], [], false⟩
theorem zXm : qM vBz := zL zK ⟨qOp, qO8, yD1, qX9, trivial⟩
theorem yWe : qF prog 1000 0 55 (qC (qD f250) 0) zTh := lp (A := zVq) zTh (fun d => (d.1.2.2.1.1, (jF d.2.1 (d.2.2.1, d.2.2.2.1)))) qUj zHh zKw zXm zJ
theorem vDf : qF prog 1000 0 55 (qC (qC (qD f250) 1) 0) qGk := lp (A := zVq) qGk (fun d => (d.1.2.2.1.1, (jF d.2.1 (d.2.2.1, d.2.2.2.1)))) yLl zJ6 zKd zXm zJ
theorem vCc : qF prog 1000 0 55 (qC (qD f250) 1) zS2 := lp (A := zVq) zS2 (fun d => (d.1.2.1.1, d.2.1)) qT6 zRn zMt zXm (loops1 vDf)
def qJ8 : Nat × zH := zP 250 [.agg zAr, .c (.dat false zN), .c (.int .i64)] (.tup [(false, zEu), (false, qQ)]) (fun k d => (zEv (zXt k) d)) (fun x => (x.1, x.2, ()))
theorem yPt : zI prog qJ8 := fA (rs := .tup [(false, zEu), (false, qQ)]) f250 zVq (fun d => (d.1, d.2.1)) zXm (zF6 (n := 2) (by kernel_rfl) fun i hi => match i, hi with | 0, _ => ⟨zTh, by kernel_rfl, yWe⟩ | 1, _ => ⟨zS2, by kernel_rfl, vCc⟩ | i + 2, hi => absurd hi (by omega))
def yI1 : zM := ⟨[(6, .c (.lit (.ptr 1001000 0))), (7, .c (.dat true zN)), (11, .c (.lit (.osl 1001001 none))), (38, .c (.lit (.osl 1001001 none))), (39, .c (.int .i64)), (40, .c (.int .i64))], [.box true zAh, .arr true zN], []⟩
def yGr : zM := ⟨[(6, .c (.lit (.ptr 1001000 0))), (7, .c (.dat true zN)), (11, .c (.lit (.osl 1001001 none)))], [.box true zAh, .arr true zN], []⟩
def qZw (f : qE9) (d : yI1.den) : Option zXd := (jK (f d.1.2.1.1 d.1.2.2.2.2.1.1 d.1.2.2.2.2.2.1.1) d.2.1) d.2.2.1
def qLo : qG := ⟨[yI1], [(.exit 0, yGr)], zXd, fun k d => qZw (zI2 k k) d, fun b x _ K => K (.exit 0) (zU b yGr (((), (x.1, ()), (), ()), ((zC8 x ()), x.2.2.2.2.2, ())))⟩
def vEw : qA := ⟨prog, fun _ => false, qP [qJ8, zKk, zPq, zHx, zDg]⟩
def yN1 : zZ := ⟨[], [(8, qLo)], [], false⟩
theorem yCi : qM vEw := zL zK ⟨yPt, qOp, yD1, qAw, zHp, trivial⟩
theorem vB2 : qF prog 1000 0 56 (qC (qD f213) 0) qLo := lp (A := yN1) qLo (fun d => (d.1.2.1.1, (jF d.2.1 d.2.2.1))) qZw zI2 zNf yCi zJ
def yDc : Nat × zH := zP 213 [.agg zGd, .c (.dat true zN), .c (.int .i64)] (.tup [(true, zBy), (false, [.fro zN]), (false, [.own zN])]) (fun k d => (zEv (zKy k) d)) (fun x => (zF3 x ()))
theorem vC7 : zI prog yDc := fA (rs := .tup [(true, zBy), (false, [.fro zN]), (false, [.own zN])]) f213 yN1 (fun d => (zIw d)) yCi (loops1 vB2)
def qTh : Nat × zH := zP 146 [.agg zGd, .c (.dat true zN), .c (.int .i64), .c (.bool)] (.tup [(true, zBy), (false, [.fro zN]), (false, [.own zN])]) (fun k d => (zG8 (zHw k) d)) (fun x => (zF3 x ()))
theorem yOs : zI prog qTh := fA (rs := .tup [(true, zBy), (false, [.fro zN]), (false, [.own zN])]) f146 ⟨[], [], [], false⟩ (fun d => (zIw d)) (zL (l := [yAr, yDc]) zK ⟨vDu, vC7, trivial⟩) zJ
def qO9 : zM := ⟨[(3, .c (.lit (.osl 1001000 none))), (5, .c (.lit (.ptr 1001001 0))), (8, .c (.dat false zN)), (9, .c (.int .i64)), (10, .c (.int .i64)), (18, .c (.lit (.osl 1001002 none))), (19, .c (.int .i64)), (20, .c (.int .i64))], [.arr true qU, .box true zBu, .arr true (.int .i64)], [(3, none, qU, false)]⟩
def qSl : zM := ⟨[(3, .c (.lit (.osl 1001000 none))), (8, .c (.dat false zN)), (9, .c (.int .i64)), (10, .c (.int .i64))], [.arr true qU], []⟩
def qTl (f : qGu) (d : qO9.den) : Option zUo := (zG8 (f d.1.2.2.1.1 d.1.2.2.2.1.1 d.1.2.2.2.2.1.1 d.1.2.2.2.2.2.2.1.1 d.1.2.2.2.2.2.2.2.1.1 d.2.1) d.2.2.1) d.2.2.2.1
def qGv : qG := ⟨[qO9], [(.exit 2, qSl)], zUo, fun k d => qTl (zGz k k) d, fun b x _ K => K (.exit 2) (zU b qSl (((), (x.1, ()), (x.2.1, ()), (x.2.2.1, ()), ()), (x.2.2.2, ())))⟩
def yK7 : zM := ⟨[(3, .c (.lit (.osl 1001000 none))), (8, .c (.dat false zN)), (9, .c (.int .i64)), (10, .c (.int .i64))], [.arr true qU], [(3, none, qU, false)]⟩
def yAv : zM := ⟨[(3, .c (.lit (.osl 1001000 none)))], [.arr true qU], []⟩
def yGc (f : qOn) (d : yK7.den) : Option zSp := f d.1.2.1.1 d.1.2.2.1.1 d.1.2.2.2.1.1 d.2.1
def qKf : qG := ⟨[yK7], [(.exit 0, yAv)], zSp, fun k d => yGc (zJ2 k k) d, fun b x _ K => K (.exit 0) (zU b yAv (((), ()), (x, ())))⟩
def vD7 : qA := ⟨prog, fun _ => false, qP [zIl]⟩
def qLw : zZ := ⟨[], [(6, qGv), (3, qKf)], [], false⟩
theorem qKk : qM vD7 := zL zK ⟨qKv, trivial⟩
theorem yZq : qF prog 1000 0 41 (qC (qC (qD f147) 0) 0) qGv := lp (A := qLw) qGv (fun d => (d.1.2.1.1, d.1.2.2.1.1, d.1.2.2.2.1.1, d.2.1)) qTl zGz zG2 qKk zJ
theorem yW1 : qF prog 1000 0 41 (qC (qD f147) 0) qKf := lp (A := qLw) qKf (fun d => d.2.1) yGc zJ2 zMe qKk (loops1 yZq)
def qQ1 : Nat × zH := zP 147 [.c (.dat false zN)] (.c (.own qU)) (fun k d => zWo k d.1) (fun x => (x, ()))
theorem yYp : zI prog qQ1 := fA (rs := .c (.own qU)) f147 qLw (fun d => d.1) qKk (loops1 yW1)
def zZg : Nat × zH := zP 93 [.agg zLs, .c (.bool)] (.tup [(true, zC6), (false, [.own qU])]) (fun k d => (zV5 (zFs k) d)) (fun x => (zRf x ()))
theorem yMe : zI prog zZg := fA (rs := .tup [(true, zC6), (false, [.own qU])]) f93 ⟨[], [], [], false⟩ (fun d => (zQ2 d)) (zL (l := [qTh, qQ1]) zK ⟨yOs, yYp, trivial⟩) zJ
def yN4 : zM := ⟨[(2, .c (.lit (.ptr 1001000 0))), (3, .c (.lit (.ptr 1001001 0))), (4, .c (.lit (.ptr 1001002 0))), (6, .c (.lit (.osl 1001003 none))), (7, .c (.lit (.osl 1001004 none))), (27, .c (.dat true zN)), (28, .c (.int .i64)), (29, .c (.int .i64))], [.box true zGb, .box true zAo, .box true zB5, .arr true qU, .arr true zN], [(6, none, qU, false), (7, none, zN, false)]⟩
def qSf : zM := ⟨[(2, .c (.lit (.ptr 1001000 0))), (3, .c (.lit (.ptr 1001001 0))), (4, .c (.lit (.ptr 1001002 0))), (6, .c (.lit (.osl 1001003 none))), (7, .c (.lit (.osl 1001004 none)))], [.box true zGb, .box true zAo, .box true zB5, .arr true qU, .arr true zN], []⟩
def qYa (f : qDd) (d : yN4.den) : Option zXe := (zFr (zEh (f d.1.2.2.2.2.2.1.1 d.1.2.2.2.2.2.2.1.1 d.1.2.2.2.2.2.2.2.1.1) d.2.1) d.2.2.1) d.2.2.2.1.1 d.2.2.2.1.2.1 d.2.2.2.1.2.2.1 d.2.2.2.2.1 d.2.2.2.2.2.1
def qG7 : qG := ⟨[yN4], [(.exit 0, qSf)], zXe, fun k d => qYa (zL2 k k) d, fun b x _ K => K (.exit 0) (zU b qSf (((), (), (), (), (), ()), ((zE6 x ()), (yYy x ()), (x.2.2.2.2.2.2.2.2.2.2.2.2.2.2.2.2.1, x.2.2.2.2.2.2.2.2.2.2.2.2.2.2.2.2.2.1, x.2.2.2.2.2.2.2.2.2.2.2.2.2.2.2.2.2.2.1, ()), x.2.2.2.2.2.2.2.2.2.2.2.2.2.2.2.2.2.2.2.1, x.2.2.2.2.2.2.2.2.2.2.2.2.2.2.2.2.2.2.2.2, ())))⟩
def yO2 : qA := ⟨prog, fun _ => false, qP [zRd, qCq, qA1, zIl, qNp, zZg]⟩
def qTv : zZ := ⟨[], [(9, qG7)], [], false⟩
theorem qRt : qM yO2 := zL zK ⟨yL1, vAu, yT9, qKv, yUe, yMe, trivial⟩
theorem yS1 : qF prog 1000 0 66 (qC (qD f92) 0) qG7 := lp (A := qTv) qG7 (fun d => (zE6 d.2.1 (zGv d.2.2.1 (d.2.2.2.1.1, d.2.2.2.1.2.1, d.2.2.2.1.2.2.1, d.2.2.2.2.1, d.2.2.2.2.2.1)))) qYa zL2 zKe qRt zJ
def qZf : Nat × zH := zP 92 [.agg zC5, .agg zLs] (.tup [(true, zC6), (false, [.own qU])]) (fun k d => (yBe (zNb k) d)) (fun x => (zRf x ()))
theorem vF0 : zI prog qZf := fA (rs := .tup [(true, zC6), (false, [.own qU])]) f92 qTv (fun d => (zQ2 d)) qRt (loops1 yS1)
def yHv : Nat × zH := yS 136 [.ptr true zF5, .agg [.int .i64, .int .i64, .int .i64, .int .i64, .int .i64, .int .i64]] (.c (.int .i64)) [vQ] 0 (fun k d => qXx k (zBi d) (qPo d)) (fun x => (x.1, (wI x.2 ())))
theorem yUc : zI prog yHv := fX (rs := .c (.int .i64)) (os := [vQ]) (ns := 0) f136 ⟨[], [], [], true⟩ 1 (fun d => (d.1, (zAq d))) (zL (l := [jU, qNa, qJy, zN9]) zK ⟨zBa, qZt, qUt, zWa, trivial⟩) zJ
def yHq : Nat × zH := yS 137 [.ptr true zF5, .agg vS] (.c (.int .i64)) [vQ] 0 (fun k d => zY3 k (zBi d) (zM5 d)) (fun x => (x.1, (wI x.2 ())))
theorem yR9 : zI prog yHq := fX (rs := .c (.int .i64)) (os := [vQ]) (ns := 0) f137 ⟨[], [], [], true⟩ 1 (fun d => (d.1, (zAq d))) (zL (l := [qLz, zDg, qDx, jU, zTo, qEx, qHn, qAk]) zK ⟨qPb, zHp, qSp, zBa, qCg, yGv, yD4, yMs, trivial⟩) zJ
def qY0 : Nat × zH := yS 138 [.ptr true zF5, .agg vS] (.c (.int .i64)) [vQ] 0 (fun k d => zTp k (zBi d) (zM5 d)) (fun x => (x.1, (wI x.2 ())))
theorem vEj : zI prog qY0 := fX (rs := .c (.int .i64)) (os := [vQ]) (ns := 0) f138 ⟨[], [], [], true⟩ 1 (fun d => (d.1, (zAq d))) (zL (l := [zCe, qHb, jU]) zK ⟨zE1, qQx, zBa, trivial⟩) zJ
def qU5 : Nat × zH := yS 139 [.ptr true zF5, .c (.p (.int .i64)), .c (.p (.int .i64))] (.c (.int .i64)) [vQ] 0 (fun k d => yOg k (zBi d) d.2.2.2.2.2.2.2.2.2.2.2.2.2.2.2.2.2.2.1 d.2.2.2.2.2.2.2.2.2.2.2.2.2.2.2.2.2.2.2.1) (fun x => (x.1, (wI x.2 ())))
theorem vHk : zI prog qU5 := fX (rs := .c (.int .i64)) (os := [vQ]) (ns := 0) f139 ⟨[], [], [], true⟩ 1 (fun d => (d.1, (zAq d))) (zL (l := [zI0, jU, qG4, zIv, zFh, zCe]) zK ⟨zVd, zBa, yI2, zR8, zQr, zE1, trivial⟩) zJ
def qSm : Nat × zH := yS 140 [.ptr true zF5, .c (.p (.int .i64)), .c (.p (.int .i64)), .c (.p (.int .i64))] (.c (.int .i64)) [vQ] 0 (fun k d => zNu k (zBi d) d.2.2.2.2.2.2.2.2.2.2.2.2.2.2.2.2.2.2.1 d.2.2.2.2.2.2.2.2.2.2.2.2.2.2.2.2.2.2.2.1 d.2.2.2.2.2.2.2.2.2.2.2.2.2.2.2.2.2.2.2.2.1) (fun x => (x.1, (wI x.2 ())))
theorem yX2 : zI prog qSm := fX (rs := .c (.int .i64)) (os := [vQ]) (ns := 0) f140 ⟨[], [], [], true⟩ 1 (fun d => (d.1, (zAq d))) (zL (l := [jU, qEu, qAa, qKz, zCe]) zK ⟨zBa, yLp, yEu, yKb, zE1, trivial⟩) zJ
def yAj : zM := ⟨[(0, .c (.lit (.ptr 1001000 0))), (7, .c (.lit (.osl 1001001 none))), (8, .c (.lit (.ptr 1001002 0))), (40, .c (.dat true (.sl (.int .i64)))), (41, .c (.int .i64)), (42, .c (.int .i64))], [.box true qGj, .arr true (.int .i64), .box true zXi, .arr true qZ, .mat, .arr true (.int .i64), .mat], []⟩
def qWo : zM := ⟨[(0, .c (.lit (.ptr 1001000 0))), (7, .c (.lit (.osl 1001001 none))), (8, .c (.lit (.ptr 1001002 0)))], [.box true qGj, .arr true (.int .i64), .box true zXi, .arr true qZ, .mat, .arr true (.int .i64), .mat], []⟩
def qRz : zM := ⟨[(0, .c (.lit (.ptr 1001000 0))), (6, .c (.int .i64))], [.box true qGj], []⟩
def yMk (f : qOz) (d : yAj.den) : Option zSg := f d.1.2.2.2.1.1 d.1.2.2.2.2.1.1 d.1.2.2.2.2.2.1.1 (zBi d.2.1) d.2.2.1 d.2.2.2.2.1 d.2.2.2.2.2.1 d.2.2.2.2.2.2.1 d.2.2.2.2.2.2.2.1
def qFj : qG := ⟨[yAj], [(.exit 0, qWo), (.ret, qRz)], zSg, fun k d => yMk (zFc k k) d, fun b x _ K => match x with | .inl x => K (.exit 0) (zU b qWo (((), (), (), ()), ((yY x.1 ()), x.2.1, (), x.2.2.1, x.2.2.2.1, x.2.2.2.2.1, x.2.2.2.2.2, ()))) | .inr x => K .ret (zU b qRz (((), (x.1, ()), ()), ((yY x.2 ()), ())))⟩
def yOz : qA := ⟨prog, fun _ => false, qP [zI0, jU, zIv, zCe, zFh]⟩
def qSz : zZ := ⟨[], [(6, qFj)], [], true⟩
theorem qR2 : qM yOz := zL zK ⟨zVd, zBa, zR8, zE1, zQr, trivial⟩
theorem yS5 : qF prog 1000 1 81 (qC (qD f141) 0) qFj := lp (A := qSz) qFj (fun d => match d with | .inl d => .inl ((zBi d.2.1), d.2.2.1, d.2.2.2.2.1, d.2.2.2.2.2.1, d.2.2.2.2.2.2.1, d.2.2.2.2.2.2.2.1) | .inr d => .inr (d.1.2.1.1, (zBi d.2.1))) yMk zFc zJo qR2 zJ
def qUi : Nat × zH := yS 141 [.ptr true zF5, .c (.p (.int .i64)), .c (.p (.int .i64))] (.c (.int .i64)) [vQ] 0 (fun k d => zU1 k (zBi d) d.2.2.2.2.2.2.2.2.2.2.2.2.2.2.2.2.2.2.1 d.2.2.2.2.2.2.2.2.2.2.2.2.2.2.2.2.2.2.2.1) (fun x => (x.1, (wI x.2 ())))
theorem vAg : zI prog qUi := fX (rs := .c (.int .i64)) (os := [vQ]) (ns := 0) f141 qSz 1 (fun d => (d.1, (zAq d))) qR2 (loops1 yS5)
def yNw : Nat × zH := yS 91 [.ptr true zF5, .agg vS] (.c (.int .i64)) [vQ] 0 (fun k d => zZj k (zBi d) (zM5 d)) (fun x => (x.1, (wI x.2 ())))
theorem vG0 : zI prog yNw := fX (rs := .c (.int .i64)) (os := [vQ]) (ns := 0) f91 ⟨[], [], [], true⟩ 1 (fun d => (d.1, (zAq d))) (zL (l := [yHv, yHq, qY0, qU5, qSm, qUi]) zK ⟨yUc, yR9, vEj, vHk, yX2, vAg, trivial⟩) zJ
def zHg : Nat × zH := zP 52 [.agg zOl, .agg zLs, .agg zJ3] (.tup [(true, zC6), (false, [.own qU]), (false, qQ)]) (fun k d => zH4 k (vE d) (zFy d) (qMl d)) (fun x => (wH x.1 (x.2.1, x.2.2, ())))
theorem zT5 : zI prog zHg := fA (rs := .tup [(true, zC6), (false, [.own qU]), (false, qQ)]) f52 ⟨[], [], [], true⟩ (fun d => ((yZ d), d.2.2.2.2.2.2.2.2.2.2.2.1, d.2.2.2.2.2.2.2.2.2.2.2.2.1)) (zL (l := [yEb, qQy, qDx, yK3, qZf, zZg, zFu, qBt, yNw]) zK ⟨yUq, yXq, qSp, yWq, vF0, yMe, zL8, qUz, vG0, trivial⟩) zJ
def zOy : Nat × zH := yS 61 [.chn [qJt, zBe], .c (.p (.dat false (.int .u8)))] (.c (.int .i64)) [zKj, vF] 0 (fun k d => zNa k (zX0 d) (zXf d) d.2.2.2.2.2.2.2.2.2.2.2.2.2.2.2.1) (fun x => (x.1, (), (jC x.2.1 (zAj x.2.2 ()))))
theorem qNi : zI prog zOy := fX (rs := .c (.int .i64)) (os := [zKj, vF]) (ns := 0) f61 ⟨[], [], [], true⟩ 0 (fun d => (d.1, (qD9 d), (zZv d))) (zL (l := [zZ9]) zK ⟨yBx, trivial⟩) zJ
def qBy : Nat × zH := zP 169 [.c (.int .i64)] (.c (.bool)) (fun k d => qUm k d.1) (fun x => (x, ()))
theorem vDv : zI prog qBy := fA (rs := .c (.bool)) f169 ⟨[], [], [], true⟩ (fun d => d.1) (zL (l := [jU]) zK ⟨zBa, trivial⟩) zJ
def yHx : zM := ⟨[(0, .c (.dat false (.int .i64))), (1, .c (.lit (.fn 169 []))), (7, .c (.int .i64)), (8, .c (.int .i64))], [], []⟩
def qO4 : zM := ⟨[], [], []⟩
def qWb : zM := ⟨[(4, .c (.int .i64))], [], []⟩
def qR5 (f : qIv) (d : yHx.den) : Option (Unit ⊕ Int) := f d.1.1.1 d.1.2.2.1.1 d.1.2.2.2.1.1
def qKr : qG := ⟨[yHx], [(.exit 0, qO4), (.ret, qWb)], (Unit ⊕ Int), fun k d => qR5 (zT8 k k) d, fun b x _ K => match x with | .inl x => K (.exit 0) (zU b qO4 ((), ())) | .inr x => K .ret (zU b qWb (((x, ()), ()), ()))⟩
def yUa : qA := ⟨prog, fun _ => false, qP [qBy]⟩
def yMg : zZ := ⟨[], [(2, qKr)], [], false⟩
theorem qXq : qM yUa := zL zK ⟨vDv, trivial⟩
theorem vD3 : qF prog 1000 0 19 (qC (qD f220) 0) qKr := lp (A := yMg) qKr (fun d => match d with | .inl d => .inl () | .inr d => .inr d.1.1.1) qR5 zT8 yIu qXq zJ
def yJl : Nat × zH := zP 220 [.c (.dat false (.int .i64)), .c (.fn 169)] (.c (.int .i64)) (fun k d => yCt k d.1) (fun x => (x, ()))
theorem yOl : zI prog yJl := fA (rs := .c (.int .i64)) f220 yMg (fun d => d.1) qXq (loops1 vD3)
def qNt : Nat × zH := zP 168 [.c (.dat false (.int .i64)), .c (.fn 169)] (.c (.bool)) (fun k d => yMy k d.1) (fun x => (x, ()))
theorem vDp : zI prog qNt := fA (rs := .c (.bool)) f168 ⟨[], [], [], false⟩ (fun d => d.1) (zL (l := [yJl]) zK ⟨yOl, trivial⟩) zJ
def qDg : Nat × zH := zP 171 [.c (.int .i64)] (.c (.bool)) (fun k d => qWx k d.1) (fun x => (x, ()))
theorem ySx : zI prog qDg := fA (rs := .c (.bool)) f171 ⟨[], [], [], true⟩ (fun d => d.1) (zL (l := []) zK trivial) zJ
def qZl : zM := ⟨[(0, .c (.dat false (.int .i64))), (1, .c (.lit (.fn 171 []))), (7, .c (.int .i64)), (8, .c (.int .i64))], [], []⟩
def qV4 : zM := ⟨[], [], []⟩
def yJ9 : zM := ⟨[(4, .c (.int .i64))], [], []⟩
def yHc (f : qE8) (d : qZl.den) : Option (Unit ⊕ Int) := f d.1.1.1 d.1.2.2.1.1 d.1.2.2.2.1.1
def qN6 : qG := ⟨[qZl], [(.exit 0, qV4), (.ret, yJ9)], (Unit ⊕ Int), fun k d => yHc (zXp k k) d, fun b x _ K => match x with | .inl x => K (.exit 0) (zU b qV4 ((), ())) | .inr x => K .ret (zU b yJ9 (((x, ()), ()), ()))⟩
def yTy : qA := ⟨prog, fun _ => false, qP [qDg]⟩
def yDk : zZ := ⟨[], [(2, qN6)], [], false⟩
theorem yA8 : qM yTy := zL zK ⟨ySx, trivial⟩
theorem yQe : qF prog 1000 0 19 (qC (qD f220) 0) qN6 := lp (A := yDk) qN6 (fun d => match d with | .inl d => .inl () | .inr d => .inr d.1.1.1) yHc zXp yNh yA8 zJ
def yOd : Nat × zH := zP 220 [.c (.dat false (.int .i64)), .c (.fn 171)] (.c (.int .i64)) (fun k d => yEy k d.1) (fun x => (x, ()))
theorem vFg : zI prog yOd := fA (rs := .c (.int .i64)) f220 yDk (fun d => d.1) yA8 (loops1 yQe)
def qMy : Nat × zH := zP 168 [.c (.dat false (.int .i64)), .c (.fn 171)] (.c (.bool)) (fun k d => yMf k d.1) (fun x => (x, ()))
theorem yX1 : zI prog qMy := fA (rs := .c (.bool)) f168 ⟨[], [], [], false⟩ (fun d => d.1) (zL (l := [yOd]) zK ⟨vFg, trivial⟩) zJ
def qYz : zM := ⟨[(2, .c (.lit (.ptr 1001000 0))), (3, .c (.lit (.ptr 1001001 0))), (28, .c (.dat false (.sl (.int .i64)))), (29, .c (.int .i64)), (30, .c (.int .i64))], [.box true zGb, .box true zY4], []⟩
def yKy : zM := ⟨[], [], []⟩
def yBs : zM := ⟨[(4, .c (.bool))], [], []⟩
def yH5 (f : qJu) (d : qYz.den) : Option (Unit ⊕ Bool) := f d.1.2.2.1.1 d.1.2.2.2.1.1 d.1.2.2.2.2.1.1 (vE d.2.1) (yZ d.2.2.1)
def qD5 : qG := ⟨[qYz], [(.exit 0, yKy), (.ret, yBs)], (Unit ⊕ Bool), fun k d => yH5 (qK4 k k) d, fun b x _ K => match x with | .inl x => K (.exit 0) (zU b yKy ((), ())) | .inr x => K .ret (zU b yBs (((x, ()), ()), ()))⟩
def ySa : qA := ⟨prog, fun _ => false, qP [qNt, zFh, qMy]⟩
def qYm : zZ := ⟨[], [(6, qD5)], [], true⟩
theorem yHz : qM ySa := zL zK ⟨vDp, zQr, yX1, trivial⟩
theorem vBl : qF prog 1000 0 66 (qC (qD f109) 0) qD5 := lp (A := qYm) qD5 (fun d => match d with | .inl d => .inl () | .inr d => .inr d.1.1.1) yH5 qK4 qPj yHz zJ
def qCi : Nat × zH := zP 109 [.agg zC5, .agg zF0] (.c (.bool)) (fun k d => qSr k (vE d) (zFy d)) (fun x => (x, ()))
theorem vDw : zI prog qCi := fA (rs := .c (.bool)) f109 qYm (fun d => d.1) yHz (loops1 vBl)
def qTm : zM := ⟨[(0, .c (.dat false zN)), (1, .c (.lit (.fn 224 []))), (5, .c (.int .i64))], [], []⟩
def qPx : zM := ⟨[], [], []⟩
def qWr : zM := ⟨[(4, .c (.bool))], [], []⟩
def yI5 (f : qG0) (d : qTm.den) : Option (Unit ⊕ Bool) := f d.1.1.1 d.1.2.2.1.1
def qGc : qG := ⟨[qTm], [(.exit 0, qPx), (.ret, qWr)], (Unit ⊕ Bool), fun k d => yI5 (qFx k k) d, fun b x _ K => match x with | .inl x => K (.exit 0) (zU b qPx ((), ())) | .inr x => K .ret (zU b qWr (((x, ()), ()), ()))⟩
def ySl : qA := ⟨prog, fun _ => false, qP [zH2]⟩
def yLr : zZ := ⟨[], [(2, qGc)], [], true⟩
theorem yNz : qM ySl := zL zK ⟨qOh, trivial⟩
theorem vBd : qF prog 1000 0 25 (qC (qD f223) 0) qGc := lp (A := yLr) qGc (fun d => match d with | .inl d => .inl () | .inr d => .inr d.1.1.1) yI5 qFx yM5 yNz zJ
def qCm : Nat × zH := zP 223 [.c (.dat false zN), .c (.fn 224)] (.c (.bool)) (fun k d => qS3 k d.1) (fun x => (x, ()))
theorem yUj : zI prog qCm := fA (rs := .c (.bool)) f223 yLr (fun d => d.1) yNz (loops1 vBd)
def yFj : zM := ⟨[(0, .c (.dat false zN)), (5, .c (.dat false zN)), (6, .c (.int .i64)), (7, .c (.int .i64))], [], []⟩
def qRd : zM := ⟨[(0, .c (.dat false zN))], [], []⟩
def yA2 : zM := ⟨[(2, .c (.bool))], [], []⟩
def qXl (f : qOe) (d : yFj.den) : Option zXj := f d.1.1.1 d.1.2.1.1 d.1.2.2.1.1 d.1.2.2.2.1.1
def qAq : qG := ⟨[yFj], [(.exit 0, qRd), (.ret, yA2)], zXj, fun k d => qXl (zZe k k) d, fun b x _ K => match x with | .inl x => K (.exit 0) (zU b qRd (((x, ()), ()), ())) | .inr x => K .ret (zU b yA2 (((x, ()), ()), ()))⟩
def vDy : qA := ⟨prog, fun _ => false, qP [zFu, qCm]⟩
def qXb : zZ := ⟨[], [(2, qAq)], [], false⟩
theorem qUb : qM vDy := zL zK ⟨zL8, yUj, trivial⟩
theorem ySm : qF prog 1000 0 26 (qC (qD f175) 0) qAq := lp (A := qXb) qAq (fun d => match d with | .inl d => .inl d.1.1.1 | .inr d => .inr d.1.1.1) qXl zZe qT8 qUb zJ
def qX7 : Nat × zH := zP 175 [.c (.dat false zN)] (.c (.bool)) (fun k d => qQ6 k d.1) (fun x => (x, ()))
theorem yUi : zI prog qX7 := fA (rs := .c (.bool)) f175 qXb (fun d => d.1) qUb (loops1 ySm)
def yFw : zM := ⟨[(0, .c (.dat false (.int .i64))), (3, .c (.int .i64)), (6, .c (.dat false (.int .i64))), (7, .c (.int .i64)), (8, .c (.int .i64))], [], []⟩
def qRl : zM := ⟨[(0, .c (.dat false (.int .i64)))], [], []⟩
def qT0 : zM := ⟨[(2, .c (.bool))], [], []⟩
def qO6 (f : qF7) (d : yFw.den) : Option ((List Int) ⊕ Bool) := f d.1.1.1 d.1.2.1.1 d.1.2.2.1.1 d.1.2.2.2.1.1 d.1.2.2.2.2.1.1
def qKd : qG := ⟨[yFw], [(.exit 0, qRl), (.ret, qT0)], ((List Int) ⊕ Bool), fun k d => qO6 (qD4 k k) d, fun b x _ K => match x with | .inl x => K (.exit 0) (zU b qRl (((x, ()), ()), ())) | .inr x => K .ret (zU b qT0 (((x, ()), ()), ()))⟩
def vCa : qA := ⟨prog, fun _ => false, qP []⟩
def yA5 : zZ := ⟨[], [(3, qKd)], [], true⟩
theorem qYt : qM vCa := zL zK trivial
theorem yP2 : qF prog 1000 0 20 (qC (qD f176) 0) qKd := lp (A := yA5) qKd (fun d => match d with | .inl d => .inl d.1.1.1 | .inr d => .inr d.1.1.1) qO6 qD4 yAe qYt zJ
def qS5 : Nat × zH := zP 176 [.c (.dat false (.int .i64))] (.c (.bool)) (fun k d => yGa k d.1) (fun x => (x, ()))
theorem yV4 : zI prog qS5 := fA (rs := .c (.bool)) f176 yA5 (fun d => d.1) qYt (loops1 yP2)
def yGj : Nat × zH := zP 174 [.c (.dat false (.int .i64)), .c (.int .i64)] (.c (.bool)) (fun k d => yNq k d.1 d.2.1) (fun x => (x, ()))
theorem vGw : zI prog yGj := fA (rs := .c (.bool)) f174 ⟨[], [], [], true⟩ (fun d => d.1) (zL (l := [qAn]) zK ⟨qY2, trivial⟩) zJ
def qNz : Nat × zH := zP 172 [.agg vS, .ptr zF0] (.c (.bool)) (fun k d => qSo k (jH d) (vF9 d)) (fun x => (x, ()))
theorem vDb : zI prog qNz := fA (rs := .c (.bool)) f172 ⟨[], [], [], true⟩ (fun d => d.1) (zL (l := [zSy, jU, yGj]) zK ⟨qC8, zBa, vGw, trivial⟩) zJ
def qQz : zM := ⟨[(0, .c (.dat false zN)), (1, .c (.lit (.fn 172 [1001000]))), (7, .c (.int .i64)), (8, .c (.int .i64))], [.robox zY4], []⟩
def qVt : zM := ⟨[], [], []⟩
def yJ0 : zM := ⟨[(4, .c (.int .i64))], [], []⟩
def yNg (f : qDi) (d : qQz.den) : Option (Unit ⊕ Int) := (zFr (f d.1.1.1 d.1.2.2.1.1 d.1.2.2.2.1.1) d.2.1)
def qJx : qG := ⟨[qQz], [(.exit 0, qVt), (.ret, yJ0)], (Unit ⊕ Int), fun k d => yNg (zSc k k) d, fun b x _ K => match x with | .inl x => K (.exit 0) (zU b qVt ((), ())) | .inr x => K .ret (zU b yJ0 (((x, ()), ()), ()))⟩
def vA3 : qA := ⟨prog, fun _ => false, qP [qNz]⟩
def yJr : zZ := ⟨[], [(2, qJx)], [], false⟩
theorem qO5 : qM vA3 := zL zK ⟨vDb, trivial⟩
theorem yUv : qF prog 1000 0 19 (qC (qD f148) 0) qJx := lp (A := yJr) qJx (fun d => match d with | .inl d => .inl () | .inr d => .inr d.1.1.1) yNg zSc yFg qO5 zJ
def qTi : Nat × zH := zP 148 [.c (.dat false zN), .fn 172 [zF0]] (.c (.int .i64)) (fun k d => (zV5 (yB7 k) d)) (fun x => (x, ()))
theorem yWs : zI prog qTi := fA (rs := .c (.int .i64)) f148 yJr (fun d => d.1) qO5 (loops1 yUv)
def qQs : Nat × zH := zP 177 [.c (.dat false zN), .fn 172 [zF0]] (.c (.bool)) (fun k d => (zV5 (qTs k) d)) (fun x => (x, ()))
theorem yTi : zI prog qQs := fA (rs := .c (.bool)) f177 ⟨[], [], [], false⟩ (fun d => d.1) (zL (l := [qTi]) zK ⟨yWs, trivial⟩) zJ
def qJq : Nat × zH := zP 110 [.agg zF0] (.c (.bool)) (fun k d => yM0 k (yZ d)) (fun x => (x, ()))
theorem vG9 : zI prog qJq := fA (rs := .c (.bool)) f110 ⟨[], [], [], true⟩ (fun d => d.1) (zL (l := [qX7, qS5, qQs]) zK ⟨yUi, yV4, yTi, trivial⟩) zJ
def qVr : zM := ⟨[(2, .c (.lit (.ptr 1001000 0))), (3, .c (.lit (.ptr 1001001 0))), (5, .c (.lit (.osl 1001002 none))), (44, .c (.dat false qZ)), (45, .c (.int .i64)), (46, .c (.int .i64))], [.box true zGb, .box true zY4, .arr true (.int .i64)], [(5, none, (.int .i64), false)]⟩
def yLe : zM := ⟨[(2, .c (.lit (.ptr 1001000 0))), (3, .c (.lit (.ptr 1001001 0))), (5, .c (.lit (.osl 1001002 none)))], [.box true zGb, .box true zY4, .arr true (.int .i64)], []⟩
def yJ5 (f : qKy) (d : qVr.den) : Option zY2 := f d.1.2.2.2.1.1 d.1.2.2.2.2.1.1 d.1.2.2.2.2.2.1.1 (vE d.2.1) (yZ d.2.2.1) d.2.2.2.1
def qHu : qG := ⟨[qVr], [(.exit 0, yLe)], zY2, fun k d => yJ5 (qJ5 k k) d, fun b x _ K => K (.exit 0) (zU b yLe (((), (), (), ()), ((jQ x.1 ()), (wH x.2.1 ()), x.2.2, ())))⟩
def yYr : qA := ⟨prog, fun _ => false, qP [jU, zP5, qCi, qJq, zPt, zRd]⟩
def yLb : zZ := ⟨[], [(5, qHu)], [], true⟩
theorem qXo : qM yYr := zL zK ⟨zBa, qXd, vDw, vG9, yBn, yL1, trivial⟩
theorem ySw : qF prog 1000 0 92 (qC (qD f59) 0) qHu := lp (A := yLb) qHu (fun d => ((vE d.2.1), (yZ d.2.2.1), d.2.2.2.1)) yJ5 qJ5 yGh qXo zJ
def zO9 : Nat × zH := zP 59 [.agg zC5, .agg zF0] (.c (.bool)) (fun k d => zWs k (vE d) (zFy d)) (fun x => (x, ()))
theorem yMt : zI prog zO9 := fA (rs := .c (.bool)) f59 yLb (fun d => d.1) qXo (loops1 ySw)
def qXe : zM := ⟨[(1, .c (.lit (.ptr 1001000 0))), (2, .c (.int .i64)), (3, .c (.lit (.ptr 1001003 0))), (12, .c (.bool)), (13, .c (.lit (.ptr 1001004 0))), (17, .c (.lit (.ptr 1001005 0))), (72, .c (.dat true (.sl (.int .u8)))), (73, .c (.int .i64)), (74, .c (.int .i64))], [.box true yE8, .arr true (.int .u8), .arr true (.int .u8), .box true zFl, .box true [.lit (.ptr 1001000 0), .int .i64, .int .i64, .int .i64, .bool], .box true zAo], [(17, some 1, .bool, true), (17, some 2, .bool, true), (17, some 3, .bool, true), (17, some 4, .bool, true), (17, some 5, .bool, true), (17, some 6, .bool, true), (17, some 7, .bool, true), (17, some 8, .bool, true)]⟩
def qYu : zM := ⟨[(1, .c (.lit (.ptr 1001000 0))), (2, .c (.int .i64)), (3, .c (.lit (.ptr 1001003 0))), (12, .c (.bool)), (13, .c (.lit (.ptr 1001004 0))), (17, .c (.lit (.ptr 1001005 0)))], [.box true yE8, .arr true (.int .u8), .arr true (.int .u8), .box true zFl, .box true [.lit (.ptr 1001000 0), .int .i64, .int .i64, .int .i64, .bool], .box true zAo], []⟩
def yLm (f : qIb) (d : qXe.den) : Option zV1 := f d.1.2.1.1 d.1.2.2.2.1.1 d.1.2.2.2.2.2.2.1.1 d.1.2.2.2.2.2.2.2.1.1 d.1.2.2.2.2.2.2.2.2.1.1 (zCh d.2.1) d.2.2.1 d.2.2.2.1 (vE d.2.2.2.2.1) (wS d.2.2.2.2.2.1) (yZ d.2.2.2.2.2.2.1)
def zZs : qG := ⟨[qXe], [(.exit 0, qYu)], zV1, fun k d => yLm (zOe k k) d, fun b x _ K => K (.exit 0) (zU b qYu (((), (x.1, ()), (), (x.2.1, ()), (), (), ()), ((zKl x.2.2.1 ()), x.2.2.2.1, x.2.2.2.2.1, (jQ x.2.2.2.2.2.1 ()), (jC x.2.2.2.2.2.2.1 ()), (wH x.2.2.2.2.2.2.2 ()), ())))⟩
def vB0 : qA := ⟨prog, fun _ => false, qP [R7q, zUn, zIy, zFw, qEe, zPf, zQw, zHg, zOy, zO9]⟩
def yI8 : zZ := ⟨[], [(11, zZs)], [], true⟩
theorem qQr : qM vB0 := zL zK ⟨F7q, qZ5, qHk, zRs, vHv, yEa, yJ1, zT5, qNi, yMt, trivial⟩
theorem yRu : qF prog 1000 2 112 (qC (qD f27) 0) zZs := lp (A := yI8) zZs (fun d => (d.1.2.1.1, d.1.2.2.2.1.1, (zCh d.2.1), d.2.2.1, d.2.2.2.1, (vE d.2.2.2.2.1), (wS d.2.2.2.2.2.1), (yZ d.2.2.2.2.2.2.1))) yLm zOe yKc qQr zJ
def qB7 : Nat × zH := zX9 27 [.agg zOl, .ptr true zBe, .c (.p (.int .i64))] (.tup [(false, [.link 1]), (false, qQ)]) [vF, yD2, zXy] 2 (.tup [(false, [.nilp]), (false, qQ)]) [vF] 0 (fun k d => zUz k (vE d) (zXf d) d.2.2.2.2.2.2.2.2.2.2.2.2.2.2.2.1) (fun x => ((), x.1, (zAj x.2.1 ((), (wI x.2.2.1 ((), (jC x.2.2.2 ()))))))) (fun x => ((), x.1, (zAj x.2 ())))
theorem vGs : zI prog qB7 := fN (rs := .tup [(false, [.link 1]), (false, qQ)]) (os := [vF, yD2, zXy]) (ns := 2) (rs2 := .tup [(false, [.nilp]), (false, qQ)]) (os2 := [vF]) (ns2 := 0) f27 yI8 2 (fun d => (d.2.1, (qYn d), (vA9 d), (yT8 d))) (fun d => (d.2.1, (qYn d))) qQr (loops1 yRu)
def zTz : Nat × zH := yS 31 [.chn [zU6, zUa, zBe]] (.c (.bool)) [zGi, zF4, vF] 0 (fun k d => zPz k (zAq d) (zSj d) (zX8 d)) (fun x => (x.1, (), (wI x.2.1 ((), (jC x.2.2.1 (zAj x.2.2.2 ()))))))
theorem yBc : zI prog zTz := fX (rs := .c (.bool)) (os := [zGi, zF4, vF]) (ns := 0) f31 ⟨[], [], [], true⟩ 0 (fun d => (d.1, (qIh d), (zZ1 d), (qOx d))) (zL (l := []) zK trivial) zJ
def qOg : Nat × zH := zP 62 [.c (.int .i64), .c (.int .i64)] (.c (.own qU)) (fun k d => zN1 k d.1 d.2.1) (fun x => (x, ()))
theorem qY8 : zI prog qOg := fA (rs := .c (.own qU)) f62 ⟨[], [], [], true⟩ (fun d => d.1) (zL (l := []) zK trivial) zJ
def yDr : Nat × zH := zP 114 [.agg vS] (.c (.own (.int .u8))) (fun k d => qP3 k (jH d)) (fun x => (x, ()))
theorem yXh : zI prog yDr := fA (rs := .c (.own (.int .u8))) f114 ⟨[1], [], [], true⟩ (fun d => d.1) (zL (l := [qJb, zR4, zNy]) zK ⟨qPg, qCc, zXn, trivial⟩) zJ
def qQ2 : Nat × zH := zP 64 [.agg zJ3] (.c (.own (.int .u8))) (fun k d => yCp k (zCh d)) (fun x => (x, ()))
theorem vDm : zI prog qQ2 := fA (rs := .c (.own (.int .u8))) f64 ⟨[], [], [], true⟩ (fun d => d.1) (zL (l := [yDr, zNy]) zK ⟨yXh, zXn, trivial⟩) zJ
def qV3 : Nat × zH := yS 113 [.chn [qJt, zBe], .c (.p (.dat false (.int .u8)))] (.c (.int .i64)) [zKj, vF] 0 (fun k d => qAj k (zX0 d) (zXf d) d.2.2.2.2.2.2.2.2.2.2.2.2.2.2.2.1) (fun x => (x.1, (), (jC x.2.1 (zAj x.2.2 ()))))
theorem yZ9 : zI prog qV3 := fX (rs := .c (.int .i64)) (os := [zKj, vF]) (ns := 0) f113 ⟨[], [], [], true⟩ 0 (fun d => (d.1, (qD9 d), (zZv d))) (zL (l := [qKa, qLt, qOb]) zK ⟨yE5, qZk, yJo, trivial⟩) zJ
def qQi : Nat × zH := yS 63 [.chn [zU6, zUa, zBe], .c (.p (.dat false (.int .u8)))] (.c (.int .i64)) [zGi, zF4, vF] 0 (fun k d => qWs k (zAq d) (zSj d) (zX8 d) d.2.2.2.2.2.2.2.2.2.2.2.2.2.2.2.2.2.2.2.2.2.2.2.2.2.2.2.2.2.2.2.2.2.2.1) (fun x => (x.1, (), (wI x.2.1 ((), (jC x.2.2.1 (zAj x.2.2.2 ()))))))
theorem yVq : zI prog qQi := fX (rs := .c (.int .i64)) (os := [zGi, zF4, vF]) (ns := 0) f63 ⟨[], [], [], true⟩ 0 (fun d => (d.1, (qIh d), (zZ1 d), (qOx d))) (zL (l := [qV3, zFw, zOy]) zK ⟨yZ9, zRs, qNi, trivial⟩) zJ
def qRm : Nat × zH := yS 65 [.chn [qJt, zBe]] (.c (.int .i64)) [zKj, vF] 0 (fun k d => yDh k (zX0 d) (zXf d)) (fun x => (x.1, (), (jC x.2.1 (zAj x.2.2 ()))))
theorem yQo : zI prog qRm := fX (rs := .c (.int .i64)) (os := [zKj, vF]) (ns := 0) f65 ⟨[], [], [], true⟩ 0 (fun d => (d.1, (qD9 d), (zZv d))) (zL (l := []) zK trivial) zJ
def qKo : Nat × zH := yS 28 [.chn [zU6, zUa, zBe], .c (.p (.int .i64)), .c (.p (.dat false (.int .u8)))] (.c (.own qU)) [zGi, zF4, vF] 0 (fun k d => yKu k (zAq d) (zSj d) (zX8 d) d.2.2.2.2.2.2.2.2.2.2.2.2.2.2.2.2.2.2.2.2.2.2.2.2.2.2.2.2.2.2.2.2.2.2.1 d.2.2.2.2.2.2.2.2.2.2.2.2.2.2.2.2.2.2.2.2.2.2.2.2.2.2.2.2.2.2.2.2.2.2.2.1) (fun x => (x.1, (), (wI x.2.1 ((), (jC x.2.2.1 (zAj x.2.2.2 ()))))))
theorem yXt : zI prog qKo := fX (rs := .c (.own qU)) (os := [zGi, zF4, vF]) (ns := 0) f28 ⟨[], [], [], true⟩ 0 (fun d => (d.1, (qIh d), (zZ1 d), (qOx d))) (zL (l := [zTz, zJx, qOg, zHg, qQ2, qQi, qRm, zFw, zOy]) zK ⟨yBc, zTq, qY8, zT5, vDm, yVq, yQo, zRs, qNi, trivial⟩) zJ
def zZx : Nat × zH := zP 69 [.agg zJ3] (.c (.bool)) (fun k d => yMb k (zCh d)) (fun x => (x, ()))
theorem vDj : zI prog zZx := fA (rs := .c (.bool)) f69 ⟨[], [], [], true⟩ (fun d => d.1) (zL (l := []) zK trivial) zJ
def yLo : zM := ⟨[(0, .c (.dat false qU)), (1, .c (.lit (.fn 69 []))), (7, .c (.int .i64)), (8, .c (.int .i64))], [], []⟩
def yL6 : zM := ⟨[], [], []⟩
def qP2 : zM := ⟨[(4, .c (.int .i64))], [], []⟩
def yHt (f : qJs) (d : yLo.den) : Option (Unit ⊕ Int) := f d.1.1.1 d.1.2.2.1.1 d.1.2.2.2.1.1
def zZq : qG := ⟨[yLo], [(.exit 0, yL6), (.ret, qP2)], (Unit ⊕ Int), fun k d => yHt (qL3 k k) d, fun b x _ K => match x with | .inl x => K (.exit 0) (zU b yL6 ((), ())) | .inr x => K .ret (zU b qP2 (((x, ()), ()), ()))⟩
def yUh : qA := ⟨prog, fun _ => false, qP [zZx]⟩
def yGy : zZ := ⟨[], [(2, zZq)], [], true⟩
theorem qX5 : qM yUh := zL zK ⟨vDj, trivial⟩
theorem vG2 : qF prog 1000 0 19 (qC (qD f116) 0) zZq := lp (A := yGy) zZq (fun d => match d with | .inl d => .inl () | .inr d => .inr d.1.1.1) yHt qL3 yE3 qX5 zJ
def yD3 : Nat × zH := zP 116 [.c (.dat false qU), .c (.fn 69)] (.c (.int .i64)) (fun k d => qTg k d.1) (fun x => (x, ()))
theorem vA8 : zI prog yD3 := fA (rs := .c (.int .i64)) f116 yGy (fun d => d.1) qX5 (loops1 vG2)
def yKm : Nat × zH := zP 68 [.c (.dat false qU), .c (.fn 69)] (.c (.bool)) (fun k d => qXg k d.1) (fun x => (x, ()))
theorem yVk : zI prog yKm := fA (rs := .c (.bool)) f68 ⟨[], [], [], true⟩ (fun d => d.1) (zL (l := [yD3]) zK ⟨vA8, trivial⟩) zJ
def qCn : Nat × zH := zP 30 [.c (.dat false qU)] (.c (.bool)) (fun k d => qDb k d.1) (fun x => (x, ()))
theorem yQ8 : zI prog qCn := fA (rs := .c (.bool)) f30 ⟨[], [], [], true⟩ (fun d => d.1) (zL (l := [yKm]) zK ⟨yVk, trivial⟩) zJ
def qF0 : Nat × zH := yS 32 [.ptr true zBe, .agg [.int .i64, .int .i64]] (.tup []) [vF] 0 (fun k d => qOq k (wX d) (d.2.2.2.2.2.2.2.2.2.2.1, d.2.2.2.2.2.2.2.2.2.2.2.1)) (fun x => (zAj x ()))
theorem vAm : zI prog qF0 := fX (rs := .tup []) (os := [vF]) (ns := 0) f32 ⟨[], [], [], true⟩ 1 (fun d => (wX d)) (zL (l := []) zK trivial) zJ
def qBc : Nat × zH := yS 33 [.ptr true zBe] (.tup []) [vF] 0 (fun k d => qIm k (wX d)) (fun x => (zAj x ()))
theorem yY5 : zI prog qBc := fX (rs := .tup []) (os := [vF]) (ns := 0) f33 ⟨[], [], [(2, 3)], true⟩ 1 (fun d => (wX d)) (zL (l := []) zK trivial) (zLb (n := 1) (by kernel_rfl) fun i hi => match i, hi with | 0, _ => .inr ⟨by kernel_rfl, zJ⟩ | i + 1, hi => absurd hi (by omega))
def zYu : Nat × zH := zP 31 [.c (.nilp)] (.c (.bool)) (fun k d => zOx k) (fun x => (x, ()))
theorem qPn : zI prog zYu := fA (rs := .c (.bool)) f31 ⟨[], [], [], true⟩ (fun d => d.1) (zL (l := []) zK trivial) zJ
def qEq : Nat × zH := zP 28 [.c (.nilp), .c (.int .i64), .c (.dat false (.int .u8))] (.c (.own qU)) (fun k d => yAp k d.2.1 d.2.2.1) (fun x => (x, ()))
theorem yXu : zI prog qEq := fA (rs := .c (.own qU)) f28 ⟨[], [], [], true⟩ (fun d => d.1) (zL (l := [zYu, zJx, qOg]) zK ⟨qPn, zTq, qY8, trivial⟩) zJ
def qEl : Nat × zH := zP 34 [.c (.nilp)] (.agg zX5) (fun k d => qIs k) (fun x => (wH x ()))
theorem ySu : zI prog qEl := fA (rs := .agg zX5) f34 ⟨[], [], [], true⟩ (fun d => (yZ d)) (zL (l := []) zK trivial) zJ
def qG6 : Nat × zH := yS 34 [.chn [zU6, zUa, zBe]] (.agg zC6) [zGi, zF4, vF] 0 (fun k d => qAp k (zAq d) (zSj d) (zX8 d)) (fun x => (wH x.1 ((), (wI x.2.1 ((), (jC x.2.2.1 (zAj x.2.2.2 ())))))))
theorem yYh : zI prog qG6 := fX (rs := .agg zC6) (os := [zGi, zF4, vF]) (ns := 0) f34 ⟨[], [], [], true⟩ 0 (fun d => ((yZ d), (yT3 d), (yPg d), (yUr d))) (zL (l := []) zK trivial) zJ
def qWm : Nat × zH := zP 152 [.c (.nilp), .c (.int .i64)] (.c (.own (.int .u8))) (fun k d => yMi k d.2.1) (fun x => (x, ()))
theorem yWf : zI prog qWm := fA (rs := .c (.own (.int .u8))) f152 ⟨[], [], [], true⟩ (fun d => d.1) (zL (l := []) zK trivial) zJ
def qX4 : Nat × zH := zP 99 [.c (.nilp), .c (.int .i64)] (.tup [(false, qQ), (false, zCw), (false, zEp)]) (fun k d => zUg k d.2.1) (fun x => (x.1, x.2.1, x.2.2, ()))
theorem yRl : zI prog qX4 := fA (rs := .tup [(false, qQ), (false, zCw), (false, zEp)]) f99 ⟨[], [], [], true⟩ (fun d => (d.1, d.2.1, d.2.2.1)) (zL (l := [qWm, qFp, zKr]) zK ⟨yWf, qUv, zQd, trivial⟩) zJ
def qNl : Nat × zH := zP 55 [.c (.nilp)] (.tup [(false, qQ), (false, qQ), (false, zCw), (false, zEp), (false, [.bool])]) (fun k d => qV7 k) (fun x => (jQ x ()))
theorem vB7 : zI prog qNl := fA (rs := .tup [(false, qQ), (false, qQ), (false, zCw), (false, zEp), (false, [.bool])]) f55 ⟨[], [], [(2, 3)], true⟩ (fun d => (d.1, d.2.1, d.2.2.1, d.2.2.2.1, d.2.2.2.2.1)) (zL (l := [qX4]) zK ⟨yRl, trivial⟩) (zLb (n := 1) (by kernel_rfl) fun i hi => match i, hi with | 0, _ => .inr ⟨by kernel_rfl, zJ⟩ | i + 1, hi => absurd hi (by omega))
def zZ0 : Nat × zH := yS 56 [.c (.p (.nilp)), .c (.p (.dat false (.int .u8)))] (.tup [(false, [.nilp]), (false, [.own (.int .u8)]), (false, [.own (.sl (.int .u8))]), (false, qQ)]) [] 0 (fun k d => yGu k d.2.1) (fun x => ((), x.1, x.2.1, x.2.2, ()))
theorem vAi : zI prog zZ0 := fX (rs := .tup [(false, [.nilp]), (false, [.own (.int .u8)]), (false, [.own (.sl (.int .u8))]), (false, qQ)]) (os := []) (ns := 0) f56 ⟨[], [], [], true⟩ 0 (fun d => (d.2.1, d.2.2.1, d.2.2.2.1)) (zL (l := []) zK trivial) zJ
def qAh : Nat × zH := zP 61 [.c (.nilp), .c (.dat false (.int .u8))] (.c (.int .i64)) (fun k d => zS9 k d.2.1) (fun x => (x, ()))
theorem yUg : zI prog qAh := fA (rs := .c (.int .i64)) f61 ⟨[], [], [], true⟩ (fun d => d.1) (zL (l := []) zK trivial) zJ
def qTu : zM := ⟨[(2, .c (.int .i64)), (3, .c (.lit (.ptr 1001000 0))), (12, .c (.bool)), (13, .c (.lit .nilp)), (17, .c (.lit (.ptr 1001001 0))), (72, .c (.lit (.osl 1001002 none))), (73, .c (.int .i64)), (74, .c (.int .i64))], [.box true zFl, .box true zAo, .arr true (.sl (.int .u8))], [(17, some 1, .bool, true), (17, some 2, .bool, true), (17, some 3, .bool, true), (17, some 4, .bool, true), (17, some 5, .bool, true), (17, some 6, .bool, true), (17, some 7, .bool, true), (17, some 8, .bool, true)]⟩
def yMz : zM := ⟨[(2, .c (.int .i64)), (3, .c (.lit (.ptr 1001000 0))), (12, .c (.bool)), (13, .c (.lit .nilp)), (17, .c (.lit (.ptr 1001001 0)))], [.box true zFl, .box true zAo], []⟩
def qVk (f : qEp) (d : qTu.den) : Option zYc := f d.1.1.1 d.1.2.2.1.1 d.1.2.2.2.2.2.2.1.1 d.1.2.2.2.2.2.2.2.1.1 (vE d.2.1) (yZ d.2.2.1) d.2.2.2.1
def qGx : qG := ⟨[qTu], [(.exit 0, yMz)], zYc, fun k d => qVk (zNx k k) d, fun b x _ K => K (.exit 0) (zU b yMz (((x.1, ()), (), (x.2.1, ()), (), (), ()), ((jQ x.2.2.1 ()), (wH x.2.2.2 ()), ())))⟩
def yY3 : qA := ⟨prog, fun _ => false, qP [R7q, qNl, zIy, zFw, zZ0, zPf, zQw, zHg, qAh, zO9]⟩
def yJd : zZ := ⟨[], [(11, qGx)], [], true⟩
theorem yJg : qM yY3 := zL zK ⟨F7q, vB7, qHk, zRs, vAi, yEa, yJ1, zT5, yUg, yMt, trivial⟩
theorem vGq : qF prog 1000 0 112 (qC (qD f27) 0) qGx := lp (A := yJd) qGx (fun d => (d.1.1.1, d.1.2.2.1.1, (vE d.2.1), (yZ d.2.2.1))) qVk zNx yGi yJg zJ
def qCo : Nat × zH := yS 27 [.agg zOl, .c (.p (.nilp)), .c (.p (.int .i64))] (.tup [(false, [.nilp]), (false, qQ)]) [] 0 (fun k d => yEe k (vE d) d.2.2.2.2.2.2.1) (fun x => ((), x, ()))
theorem yW2 : zI prog qCo := fX (rs := .tup [(false, [.nilp]), (false, qQ)]) (os := []) (ns := 0) f27 yJd 0 (fun d => d.2.1) yJg (loops1 vGq)
def yLc : zM := ⟨[(2, .c (.int .i64)), (4, .c (.lit (.ptr 1001000 0))), (8, .c (.lit (.ptr 1001001 0))), (9, .c (.lit (.ptr 1001002 0))), (10, .c (.lit (.ptr 1001005 0))), (12, .c (.lit (.ptr 1001007 0))), (30, .c (.dat false (.pair (.int .i64) (.pair (.int .i64) (.pair (.sl (.int .u8)) wE))))), (31, .c (.int .i64)), (32, .c (.int .i64))], [.box true zFl, .box true zS8, .box true qXt, .arr true (.int .u8), .arr true (.int .u8), .box true [.lit (.ptr 1001006 0), .int .i64, .dat true wE, .int .i64, .int .i64, .int .i64, .int .i64, .dat true qZ, .dat true (.sl (.int .i64)), .dat true (.int .i64), .dat true (.sl (.int .i64)), .dat true (.int .i64), .dat true (.sl (.int .i64)), .dat true zN, .dat true (.int .i64), .int .i64, .bool, .int .i64, .bool], .box true [.lit (.ptr 1001002 0), .int .i64, .int .i64, .int .i64, .bool], .box true [.lit (.osl 1001008 none), .lit (.osl 1001009 none), .int .i64, .lit .nsl, .lit .nsl, .lit .nsl, .lit .nsl, .lit .nsl, .lit .nsl, .lit .nsl, .lit .nsl, .int .i64, .bool, .bool], .arr true (.sl qU), .arr true qU], [(12, some 0, (.sl qU), false), (12, some 1, qU, false)]⟩
def yK2 : zM := ⟨[(2, .c (.int .i64)), (4, .c (.lit (.ptr 1001000 0))), (8, .c (.lit (.ptr 1001001 0))), (9, .c (.lit (.ptr 1001002 0))), (10, .c (.lit .nilp)), (12, .c (.lit (.ptr 1001005 0))), (30, .c (.dat false (.pair (.int .i64) (.pair (.int .i64) (.pair (.sl (.int .u8)) wE))))), (31, .c (.int .i64)), (32, .c (.int .i64))], [.box true zFl, .box true zS8, .box true qXt, .arr true (.int .u8), .arr true (.int .u8), .box true [.lit (.osl 1001006 none), .lit (.osl 1001007 none), .int .i64, .lit .nsl, .lit .nsl, .lit .nsl, .lit .nsl, .lit .nsl, .lit .nsl, .lit .nsl, .lit .nsl, .int .i64, .bool, .bool], .arr true (.sl qU), .arr true qU], [(12, some 0, (.sl qU), false), (12, some 1, qU, false)]⟩
def yCv : zM := ⟨[(8, .c (.lit (.ptr 1001000 0))), (10, .c (.lit .nilp)), (12, .c (.lit (.ptr 1001001 0)))], [.box true zS8, .box true [.lit (.osl 1001002 none), .lit (.osl 1001003 none), .int .i64, .lit .nsl, .lit .nsl, .lit .nsl, .lit .nsl, .lit .nsl, .lit .nsl, .lit .nsl, .lit .nsl, .int .i64, .bool, .bool], .arr true (.sl qU), .arr true qU], []⟩
def qUq : zM := ⟨[(8, .c (.lit (.ptr 1001000 0))), (10, .c (.lit (.ptr 1001001 0))), (12, .c (.lit (.ptr 1001006 0)))], [.box true zS8, .box true [.lit (.ptr 1001002 0), .int .i64, .dat true wE, .int .i64, .int .i64, .int .i64, .int .i64, .dat true qZ, .dat true (.sl (.int .i64)), .dat true (.int .i64), .dat true (.sl (.int .i64)), .dat true (.int .i64), .dat true (.sl (.int .i64)), .dat true zN, .dat true (.int .i64), .int .i64, .bool, .int .i64, .bool], .box true [.lit (.ptr 1001003 0), .int .i64, .int .i64, .int .i64, .bool], .box true [.int .i64, .lit (.osl 1001004 none), .int .i64, .lit (.osl 1001005 none), .int .i64, .int .i64, .int .i64, .bool, .bool, .int .i64], .arr true (.int .u8), .arr true (.int .u8), .box true [.lit (.osl 1001007 none), .lit (.osl 1001008 none), .int .i64, .lit .nsl, .lit .nsl, .lit .nsl, .lit .nsl, .lit .nsl, .lit .nsl, .lit .nsl, .lit .nsl, .int .i64, .bool, .bool], .arr true (.sl qU), .arr true qU], []⟩
def qVy (f : qN2) (d : InD [yLc, yK2]) : Option zYl := match d with | .inl d => f (.inl (d.1.1.1, d.1.2.2.2.2.2.2.1.1, d.1.2.2.2.2.2.2.2.1.1, d.1.2.2.2.2.2.2.2.2.1.1, (vE d.2.1), (wS d.2.2.1), (zCh d.2.2.2.1), d.2.2.2.2.1, d.2.2.2.2.2.1, (jG d.2.2.2.2.2.2.1), (wS d.2.2.2.2.2.2.2.1), (wS d.2.2.2.2.2.2.2.2.1), d.2.2.2.2.2.2.2.2.2.1, d.2.2.2.2.2.2.2.2.2.2.1)) | .inr d => f (.inr (d.1.1.1, d.1.2.2.2.2.2.2.1.1, d.1.2.2.2.2.2.2.2.1.1, d.1.2.2.2.2.2.2.2.2.1.1, (vE d.2.1), (wS d.2.2.1), (zCh d.2.2.2.1), d.2.2.2.2.1, d.2.2.2.2.2.1, (wS d.2.2.2.2.2.2.1), d.2.2.2.2.2.2.2.1, d.2.2.2.2.2.2.2.2.1))
def qH5 : qG := ⟨[yLc, yK2], [(.exit 0, yCv), (.exit 0, qUq)], zYl, fun k d => qVy (zSe k k) d, fun b x _ K => match x with | .inl x => K (.exit 0) (zU b yCv (((), (), (), ()), ((jC x.1 ()), (jC x.2.1 ()), x.2.2.1, x.2.2.2, ()))) | .inr x => K (.exit 0) (zU b qUq (((), (), (), ()), ((jC x.1 ()), (wI x.2.1 ()), (jC x.2.2.1 ()), (zKl x.2.2.2.1 ()), x.2.2.2.2.1, x.2.2.2.2.2.1, (jC x.2.2.2.2.2.2.1 ()), x.2.2.2.2.2.2.2.1, x.2.2.2.2.2.2.2.2, ())))⟩
def yRm : qA := ⟨prog, fun _ => false, qP [R2q, qB7, qKo, zJx, qCn, zTz, qF0, qBc, qEq, zYu, qEl, qG6, qCo]⟩
def yC5 : zZ := ⟨[], [(7, qH5)], [], true⟩
theorem yHh : qM yRm := zL zK ⟨F2q, vGs, yXt, zTq, yQ8, yBc, vAm, yY5, yXu, qPn, ySu, yYh, yW2, trivial⟩
theorem yV2 : qF prog 1000 0 110 (qC (qD f9) 0) qH5 := lp (A := yC5) qH5 (fun d => match d with | .inl d => .inl ((wS d.2.1), (wS d.2.2.1), d.2.2.2.1, d.2.2.2.2.1) | .inr d => .inr ((wS d.2.1), (jG d.2.2.1), (wS d.2.2.2.1), (zCh d.2.2.2.2.1), d.2.2.2.2.2.1, d.2.2.2.2.2.2.1, (wS d.2.2.2.2.2.2.2.1), d.2.2.2.2.2.2.2.2.1, d.2.2.2.2.2.2.2.2.2.1)) qVy zSe qPl yHh zJ (hs := by intro k rec d; rcases d with d | d <;> kernel_rfl) (h0 := by intro k d; rcases d with d | d <;> rfl)
def yKf : Nat × zH := zP 9 [.agg zOl, .c (.int .i64), .c (.int .i64), .c (.dat false (.pair (.int .i64) (.pair (.int .i64) (.pair (.sl (.int .u8)) wE))))] (.agg qVf) (fun k d => qSw k (vE d) d.2.2.2.2.2.1 d.2.2.2.2.2.2.1 d.2.2.2.2.2.2.2.1) (fun x => (qLk x ()))
theorem vAk : zI prog yKf := fA (rs := .agg qVf) f9 yC5 (fun d => (qNn d)) yHh (loops1 yV2)
def zUv : Nat × zH := zP 38 [.c (.int .i64)] (.c (.int .i64)) (fun k d => qGm k d.1) (fun x => (x, ()))
theorem qXk : zI prog zUv := fA (rs := .c (.int .i64)) f38 ⟨[], [], [], true⟩ (fun d => d.1) (zL (l := []) zK trivial) zJ
def qP1 : zM := ⟨[(1, .c (.lit (.ptr 1001000 0))), (3, .c (.int .i64)), (4, .c (.int .i64))], [.box true zBu], []⟩
def qYk : zM := ⟨[(3, .c (.int .i64))], [], []⟩
def yMm : zM := ⟨[(2, .c (.bool))], [], []⟩
def yGz (f : qOa) (d : qP1.den) : Option (Int ⊕ Bool) := f d.1.2.1.1 d.1.2.2.1.1 (jH d.2.1)
def qIi : qG := ⟨[qP1], [(.exit 0, qYk), (.ret, yMm)], (Int ⊕ Bool), fun k d => yGz (qIx k k) d, fun b x _ K => match x with | .inl x => K (.exit 0) (zU b qYk (((x, ()), ()), ())) | .inr x => K .ret (zU b yMm (((x, ()), ()), ()))⟩
def ySn : qA := ⟨prog, fun _ => false, qP [zUv]⟩
def qO3 : zZ := ⟨[], [(3, qIi)], [], true⟩
theorem yF2 : qM ySn := zL zK ⟨qXk, trivial⟩
theorem yYm : qF prog 1000 0 21 (qC (qD f72) 0) qIi := lp (A := qO3) qIi (fun d => match d with | .inl d => .inl d.1.1.1 | .inr d => .inr d.1.1.1) yGz qIx qUs yF2 zJ
def qSg : Nat × zH := zP 72 [.agg vS] (.c (.bool)) (fun k d => yGq k (jH d)) (fun x => (x, ()))
theorem yVi : zI prog qSg := fA (rs := .c (.bool)) f72 qO3 (fun d => d.1) yF2 (loops1 yYm)
def yF9 : zM := ⟨[(1, .c (.dat false (.int .i64))), (4, .c (.lit (.ptr 1001000 0))), (5, .c (.lit (.ptr 1001001 0))), (6, .c (.int .i64))], [.box true zBu, .box true zBu], []⟩
def yBt : zM := ⟨[(4, .c (.lit (.ptr 1001000 0))), (5, .c (.lit (.ptr 1001001 0)))], [.box true zBu, .box true zBu], []⟩
def qZ0 (f : qNd) (d : yF9.den) : Option zUd := (zG8 (zG8 (f d.1.1.1 d.1.2.2.2.1.1) d.2.1) d.2.2.1)
def qAi : qG := ⟨[yF9], [(.exit 0, yBt)], zUd, fun k d => qZ0 (zY0 k k) d, fun b x _ K => K (.exit 0) (zU b yBt (((), (), ()), ((zJi x ()), (ySq x ()), ())))⟩
def vAj : qA := ⟨prog, fun _ => false, qP []⟩
def yL2 : zZ := ⟨[], [(3, qAi)], [], false⟩
theorem yJe : qM vAj := zL zK trivial
theorem yOv : qF prog 1000 0 27 (qC (qD f13) 0) qAi := lp (A := yL2) qAi (fun d => (zJi d.2.1 (jH d.2.2.1))) qZ0 zY0 yAu yJe zJ
def yIx : Nat × zH := zP 13 [.c (.int .i64), .c (.dat false (.int .i64))] (.agg zCs) (fun k d => qO2 k d.1 d.2.1) (fun x => (zB6 x ()))
theorem yRt : zI prog yIx := fA (rs := .agg zCs) f13 yL2 (fun d => (jH d)) yJe (loops1 yOv)
def yNc : Nat × zH := zP 24 [.c (.int .i64), .c (.int .i64), .c (.dat false (.int .i64))] (.agg zMc) (fun k d => zPd k d.1 d.2.1 d.2.2.1) (fun x => (zKl x ()))
theorem vBa : zI prog yNc := fA (rs := .agg zMc) f24 ⟨[], [], [], true⟩ (fun d => (zCh d)) (zL (l := [yIx]) zK ⟨yRt, trivial⟩) zJ
def yM3 : zM := ⟨[(0, .c (.dat false (.int .i64))), (3, .c (.lit (.osl 1001000 none))), (4, .c (.int .i64)), (5, .c (.int .i64))], [.arr true (.int .u8)], []⟩
def yGw : zM := ⟨[(0, .c (.dat false (.int .i64))), (3, .c (.lit (.osl 1001000 none))), (4, .c (.int .i64))], [.arr true (.int .u8)], []⟩
def qP6 (f : qAz) (d : yM3.den) : Option zYy := f d.1.1.1 d.1.2.2.1.1 d.1.2.2.2.1.1 d.2.1
def qLi : qG := ⟨[yM3], [(.exit 2, yGw)], zYy, fun k d => qP6 (qHx k k) d, fun b x _ K => K (.exit 2) (zU b yGw (((x.1, ()), (), (x.2.1, ()), ()), (x.2.2, ())))⟩
def yHp : zM := ⟨[(0, .c (.dat false (.int .i64))), (3, .c (.lit (.osl 1001000 none))), (4, .c (.int .i64))], [.arr true (.int .u8)], []⟩
def yEh : zM := ⟨[(3, .c (.lit (.osl 1001000 none)))], [.arr true (.int .u8)], []⟩
def yKs (f : qNj) (d : yHp.den) : Option (List Int) := f d.1.1.1 d.1.2.2.1.1 d.2.1
def qC7 : qG := ⟨[yHp], [(.exit 0, yEh)], (List Int), fun k d => yKs (qA6 k k) d, fun b x _ K => K (.exit 0) (zU b yEh (((), ()), (x, ())))⟩
def yU3 : qA := ⟨prog, fun _ => false, qP []⟩
def qGb : zZ := ⟨[], [(6, qLi), (3, qC7)], [], true⟩
theorem qCd : qM yU3 := zL zK trivial
theorem yUn : qF prog 1000 0 30 (qC (qC (qD f86) 0) 0) qLi := lp (A := qGb) qLi (fun d => (d.1.1.1, d.1.2.2.1.1, d.2.1)) qP6 qHx yJa qCd zJ
theorem yZz : qF prog 1000 0 30 (qC (qD f86) 0) qC7 := lp (A := qGb) qC7 (fun d => d.2.1) yKs qA6 yD8 qCd (loops1 yUn)
def qVm : Nat × zH := zP 86 [.c (.dat false (.int .i64))] (.c (.own (.int .u8))) (fun k d => qVh k d.1) (fun x => (x, ()))
theorem yT7 : zI prog qVm := fA (rs := .c (.own (.int .u8))) f86 qGb (fun d => d.1) qCd (loops1 yZz)
def yMp : Nat × zH := zP 49 [.agg vS] (.c (.own (.int .u8))) (fun k d => yFa k (jH d)) (fun x => (x, ()))
theorem vAh : zI prog yMp := fA (rs := .c (.own (.int .u8))) f49 ⟨[1], [], [], true⟩ (fun d => d.1) (zL (l := [qSg, zUv, qVm]) zK ⟨yVi, qXk, yT7, trivial⟩) zJ
def yAl : Nat × zH := zP 23 [.agg zJ3] (.agg [.int .i64, .int .i64, .own (.int .u8), .int .i64, .int .i64]) (fun k d => zO8 k (zCh d)) (fun x => (jQ x ()))
theorem yU0 : zI prog yAl := fA (rs := .agg [.int .i64, .int .i64, .own (.int .u8), .int .i64, .int .i64]) f23 ⟨[], [], [], true⟩ (fun d => (vE d)) (zL (l := [yMp]) zK ⟨vAh, trivial⟩) zJ
def qCj : Nat × zH := zP 16 [] (.c (.bool)) (fun k d => qE7 k) (fun x => (x, ()))
theorem yVz : zI prog qCj := fA (rs := .c (.bool)) f16 ⟨[], [], [], true⟩ (fun d => d.1) (zL (l := [R1q, yNc, yAl, yKf]) zK ⟨F1q, vBa, yU0, vAk, trivial⟩) zJ
def qNe : Nat × zH := zP 21 [.agg zOl, .agg zLs, .agg zJ3] (.tup [(true, zC6), (false, [.own qU]), (false, qQ)]) (fun k d => zUb k (vE d) (zFy d) (qMl d)) (fun x => (wH x.1 (x.2.1, x.2.2, ())))
theorem yY0 : zI prog qNe := fA (rs := .tup [(true, zC6), (false, [.own qU]), (false, qQ)]) f21 ⟨[], [], [], true⟩ (fun d => ((yZ d), d.2.2.2.2.2.2.2.2.2.2.2.1, d.2.2.2.2.2.2.2.2.2.2.2.2.1)) (zL (l := [zHg]) zK ⟨zT5, trivial⟩) zJ
def qLq : Nat × zH := zP 53 [.agg zD1] (.c (.bool)) (fun k d => zQo k d.1 d.2.1 d.2.2.1) (fun x => (x, ()))
theorem yXv : zI prog qLq := fA (rs := .c (.bool)) f53 ⟨[], [], [], false⟩ (fun d => d.1) (zL (l := [qEz]) zK ⟨yGo, trivial⟩) zJ
def qUx : zM := ⟨[(2, .c (.lit (.ptr 1001000 0))), (15, .c (.dat false qZ)), (16, .c (.int .i64)), (17, .c (.int .i64))], [.box true zCq], []⟩
def qZm : zM := ⟨[], [], []⟩
def yDy : zM := ⟨[(4, .c (.bool))], [], []⟩
def yEs (f : qEa) (d : qUx.den) : Option (Unit ⊕ Bool) := (jK (f d.1.2.1.1 d.1.2.2.1.1 d.1.2.2.2.1.1) d.2.1)
def qLj : qG := ⟨[qUx], [(.exit 0, qZm), (.ret, yDy)], (Unit ⊕ Bool), fun k d => yEs (zN8 k k) d, fun b x _ K => match x with | .inl x => K (.exit 0) (zU b qZm ((), ())) | .inr x => K .ret (zU b yDy (((x, ()), ()), ()))⟩
def yRw : qA := ⟨prog, fun _ => false, qP [qLq]⟩
def yKq : zZ := ⟨[], [(4, qLj)], [], false⟩
theorem qT9 : qM yRw := zL zK ⟨yXv, trivial⟩
theorem vFx : qF prog 1000 0 36 (qC (qD f22) 0) qLj := lp (A := yKq) qLj (fun d => match d with | .inl d => .inl () | .inr d => .inr d.1.1.1) yEs zN8 zI6 qT9 zJ
def qMh : Nat × zH := zP 22 [.agg zAr, .agg zAr] (.c (.bool)) (fun k d => (zDf (zV6 k) d)) (fun x => (x, ()))
theorem yS7 : zI prog qMh := fA (rs := .c (.bool)) f22 yKq (fun d => d.1) qT9 (loops1 vFx)
def yEf : zM := ⟨[(1, .c (.dat false qU)), (5, .c (.lit (.ptr 1001000 0))), (6, .c (.lit (.ptr 1001001 0))), (7, .c (.int .i64)), (8, .c (.lit (.ptr 1001002 0))), (11, .c (.int .i64))], [.box true zFl, .box true zAo, .box true zAo], []⟩
def yAi : zM := ⟨[(1, .c (.dat false qU)), (5, .c (.lit (.ptr 1001000 0))), (6, .c (.lit (.ptr 1001001 0))), (7, .c (.int .i64)), (8, .c (.lit (.ptr 1001002 0)))], [.box true zFl, .box true zAo, .box true zAo], []⟩
def yC6 : zM := ⟨[(4, .c (.bool))], [], []⟩
def qPf (f : qCx) (d : yEf.den) : Option zW5 := f d.1.1.1 d.1.2.2.2.1.1 d.1.2.2.2.2.2.1.1 (vE d.2.1) (yZ d.2.2.1) (yZ d.2.2.2.1)
def qE5 : qG := ⟨[yEf], [(.exit 2, yAi), (.ret, yC6)], zW5, fun k d => qPf (zN0 k k) d, fun b x _ K => match x with | .inl x => K (.exit 2) (zU b yAi (((x.1, ()), (), (), (x.2.1, ()), (), ()), ((jQ x.2.2.1 ()), (wH x.2.2.2.1 ()), (wH x.2.2.2.2 ()), ()))) | .inr x => K .ret (zU b yC6 (((x, ()), ()), ()))⟩
def yIr : zM := ⟨[(1, .c (.dat false qU)), (5, .c (.lit (.ptr 1001000 0))), (6, .c (.lit (.ptr 1001001 0))), (7, .c (.int .i64))], [.box true zFl, .box true zAo], [(5, some 1, .bool, true), (6, some 1, .bool, true), (6, some 2, .bool, true), (6, some 3, .bool, true), (6, some 4, .bool, true), (6, some 5, .bool, true), (6, some 6, .bool, true), (6, some 7, .bool, true), (6, some 8, .bool, true)]⟩
def yN3 : zM := ⟨[], [], []⟩
def qWj : zM := ⟨[(4, .c (.bool))], [], []⟩
def yOb (f : qI8) (d : yIr.den) : Option (Unit ⊕ Bool) := f d.1.1.1 d.1.2.2.2.1.1 (vE d.2.1) (yZ d.2.2.1)
def qDn : qG := ⟨[yIr], [(.exit 0, yN3), (.ret, qWj)], (Unit ⊕ Bool), fun k d => yOb (zOf k k) d, fun b x _ K => match x with | .inl x => K (.exit 0) (zU b yN3 ((), ())) | .inr x => K .ret (zU b qWj (((x, ()), ()), ()))⟩
def qPs : qA := ⟨prog, fun _ => false, qP [R1q, zIy, qNe, qMh, qCj]⟩
def qLe : zZ := ⟨[], [(12, qE5), (6, qDn)], [], true⟩
theorem zVz : qM qPs := zL zK ⟨F1q, qHk, yY0, yS7, yVz, trivial⟩
theorem yU9 : qF prog 1000 0 103 (qC (qC (qD f5) 0) 0) qE5 := lp (A := qLe) qE5 (fun d => match d with | .inl d => .inl (d.1.1.1, d.1.2.2.2.1.1, (vE d.2.1), (yZ d.2.2.1), (yZ d.2.2.2.1)) | .inr d => .inr d.1.1.1) qPf zN0 zJp zVz zJ
theorem vGj : qF prog 1000 0 103 (qC (qD f5) 0) qDn := lp (A := qLe) qDn (fun d => match d with | .inl d => .inl () | .inr d => .inr d.1.1.1) yOb zOf zJ9 zVz (loops1 yU9)
def qK0 : List AS := [.c (.int .i64), .c (.dat false qU)]
theorem vAt : qFk qPs qLe 0 f5 qK0 (.c (.bool)) (fun d => d.1) (fun k d => zWf k d.1 d.2.1) := by intro k d; kernel_rfl
end
end Go.Ab.Gi
