/- part 52 -/
import Derived.Test.YtdhajnjinkknkaaGreatGiXS
import Derived.Test.YtdhajnjinkknkaaGreatGiAbE
import Derived.Test.YtdhajnjinkknkaaGreatProg
set_option linter.unusedVariables false
set_option maxRecDepth 100000
set_option maxHeartbeats 4000000
namespace Go.Ab.Gi
open Go.RowKit Go.Lib Go.Proofs Go.Proofs.Tryz
noncomputable section
theorem zM : prog.follows .mixedOrders = true := by kernel_rfl
def R1q : Nat × zJ := zR 78 [.c (.int .i64)] (.c (.bool)) (fun k d => zO0 k d.1) (fun x => (x, ()))
theorem F1q : zK prog R1q := fA (rs := .c (.bool)) f78 ⟨[], [], false⟩ (fun d => d.1) (zN (l := []) zM trivial) zL
def qXz : zF := ⟨[(1, .c (.int .i64)), (5, .c (.lit (.osl 1001000 none))), (13, .c (.int .i64)), (14, .c (.int .i64))], [.arr true (.int .i64)], []⟩
def yD4 : zF := ⟨[(5, .c (.lit (.osl 1001000 none)))], [.arr true (.int .i64)], []⟩
def yMs (f : qEz) (d : qXz.den) : Option (List Int) := f d.1.1.1 d.1.2.2.1.1 d.1.2.2.2.1.1 d.2.1
def qLd : qG := ⟨qXz, [(.exit 0, yD4)], (List Int), fun k d => yMs (zQu k k) d, fun b x _ K => K (.exit 0) (zT b yD4 (((), ()), (x, ())))⟩
def E2q : qC := ⟨prog, fun _ => false, qL [R1q]⟩
def A2q : qA := ⟨[], [(5, qLd)], false⟩
theorem B2q : qJ E2q := zN zM ⟨F1q, trivial⟩
theorem vAr : qE prog 1000 0 23 (zZ (qD f41) 0) qLd := lp (A := A2q) qLd (fun d => d.2.1) yMs zQu zOh B2q zL
def R2q : Nat × zJ := zR 41 [.c (.int .i64), .c (.int .i64)] (.c (.own (.int .i64))) (fun k d => zHp k d.1 d.2.1) (fun x => (x, ()))
theorem F2q : zK prog R2q := fA (rs := .c (.own (.int .i64))) f41 A2q (fun d => d.1) B2q (loops1 vAr)
def yM1 : zF := ⟨[(0, .c (.int .i64)), (1, .c (.int .i64)), (5, .c (.lit (.osl 1001000 none))), (13, .c (.int .i64)), (14, .c (.int .i64))], [.mat], []⟩
def qS0 : zF := ⟨[(5, .c (.lit (.osl 1001000 none)))], [.mat], []⟩
def yN6 (f : qNp) (d : yM1.den) : Option (List (List Int)) := f d.1.1.1 d.1.2.1.1 d.1.2.2.2.1.1 d.1.2.2.2.2.1.1 d.2.1
def qM4 : qG := ⟨yM1, [(.exit 0, qS0)], (List (List Int)), fun k d => yN6 (zQm k k) d, fun b x _ K => K (.exit 0) (zT b qS0 (((), ()), (x, ())))⟩
def E3q : qC := ⟨prog, fun _ => false, qL [R1q, R2q]⟩
def A3q : qA := ⟨[11], [(5, qM4)], false⟩
theorem B3q : qJ E3q := zN zM ⟨F1q, F2q, trivial⟩
theorem yRr : qE prog 1000 0 25 (zZ (qD f40) 0) qM4 := lp (A := A3q) qM4 (fun d => d.2.1) yN6 zQm zNp B3q zL
def R3q : Nat × zJ := zR 40 [.c (.int .i64), .c (.int .i64)] (.c (.mat)) (fun k d => zKy k d.1 d.2.1) (fun x => (x, ()))
theorem F3q : zK prog R3q := fA (rs := .c (.mat)) f40 A3q (fun d => d.1) B3q (loops1 yRr)
def yK0 : zF := ⟨[(1, .c (.lit (.ptr 1001000 0))), (2, .c (.lit (.ptr 1001001 0))), (3, .c (.int .i64)), (4, .c (.lit (.ptr 1001002 0))), (20, .c (.dat false y0q)), (21, .c (.int .i64)), (22, .c (.int .i64))], [.box true zBl, .box true zEj, .box true yGv, .arr true yI, .mat, .arr true (.int .i64), .mat, .arr true (.int .i64)], [(4, some 5, (.int .i64), false)]⟩
def qV1 : zF := ⟨[(1, .c (.lit (.ptr 1001000 0))), (2, .c (.lit (.ptr 1001001 0))), (3, .c (.int .i64)), (4, .c (.lit (.ptr 1001002 0)))], [.box true zBl, .box true zEj, .box true yGv, .arr true yI, .mat, .arr true (.int .i64), .mat, .arr true (.int .i64)], []⟩
def yAq (f : qC7) (d : yK0.den) : Option zX1 := f d.1.2.2.1.1 d.1.2.2.2.2.1.1 d.1.2.2.2.2.2.1.1 d.1.2.2.2.2.2.2.1.1 (vA d.2.1) (d.2.2.1.1, d.2.2.1.2.1, d.2.2.1.2.2.1) (d.2.2.2.1.1, d.2.2.2.1.2.1, d.2.2.2.1.2.2.1) d.2.2.2.2.1 d.2.2.2.2.2.1 d.2.2.2.2.2.2.1 d.2.2.2.2.2.2.2.1 d.2.2.2.2.2.2.2.2.1
def zZn : qG := ⟨yK0, [(.exit 0, qV1)], zX1, fun k d => yAq (qMj k k) d, fun b x _ K => K (.exit 0) (zT b qV1 (((), (), (x.1, ()), (), ()), ((zBg x.2.1 ()), (x.2.2.1.1, x.2.2.1.2.1, x.2.2.1.2.2, ()), (x.2.2.2.1.1, x.2.2.2.1.2.1, x.2.2.2.1.2.2, ()), x.2.2.2.2.1, x.2.2.2.2.2.1, x.2.2.2.2.2.2.1, x.2.2.2.2.2.2.2.1, x.2.2.2.2.2.2.2.2, ())))⟩
def qYq : zF := ⟨[(1, .c (.lit (.ptr 1001000 0))), (2, .c (.lit (.ptr 1001001 0))), (4, .c (.lit (.ptr 1001002 0))), (34, .c (.int .i64)), (35, .c (.int .i64))], [.box true zBl, .box true zEj, .box true [.int .i64, .lit (.osl 1001003 none), .lit (.osl 1001004 none), .lit (.osl 1001005 none), .lit (.osl 1001006 none), .lit (.osl 1001007 none), .lit (.osl 1001008 none), .lit .nsl, .lit .nsl, .int .i64, .bool], .arr true yI, .mat, .arr true (.int .i64), .mat, .arr true (.int .i64), .mat], [(4, some 6, (.sl (.int .i64)), true)]⟩
def yFy : zF := ⟨[(2, .c (.lit (.ptr 1001000 0))), (4, .c (.lit (.ptr 1001001 0)))], [.box true zEj, .box true [.int .i64, .lit (.osl 1001002 none), .lit (.osl 1001003 none), .lit (.osl 1001004 none), .lit (.osl 1001005 none), .lit (.osl 1001006 none), .lit (.osl 1001007 none), .lit .nsl, .lit .nsl, .int .i64, .bool], .arr true yI, .mat, .arr true (.int .i64), .mat, .arr true (.int .i64), .mat], []⟩
def yM2 (f : qE3) (d : qYq.den) : Option zZo := f d.1.2.2.2.1.1 d.1.2.2.2.2.1.1 (vA d.2.1) (d.2.2.1.1, d.2.2.1.2.1, d.2.2.1.2.2.1) (d.2.2.2.1.1, d.2.2.2.1.2.1, d.2.2.2.1.2.2.1) d.2.2.2.2.1 d.2.2.2.2.2.1 d.2.2.2.2.2.2.1 d.2.2.2.2.2.2.2.1 d.2.2.2.2.2.2.2.2.1 d.2.2.2.2.2.2.2.2.2.1
def zZ1 : qG := ⟨qYq, [(.exit 2, yFy)], zZo, fun k d => yM2 (qN7 k k) d, fun b x _ K => K (.exit 2) (zT b yFy (((), (), ()), ((x.1.1, x.1.2.1, x.1.2.2, ()), (x.2.1.1, x.2.1.2.1, x.2.1.2.2, ()), x.2.2.1, x.2.2.2.1, x.2.2.2.2.1, x.2.2.2.2.2.1, x.2.2.2.2.2.2.1, x.2.2.2.2.2.2.2, ())))⟩
def E4q : qC := ⟨prog, fun _ => false, qL [R3q, R2q]⟩
def A4q : qA := ⟨[43, 44], [(4, zZn), (9, zZ1)], true⟩
theorem B4q : qJ E4q := zN zM ⟨F3q, F2q, trivial⟩
theorem yRl : qE prog 1000 0 48 (zZ (qD f15) 0) zZn := lp (A := A4q) zZn (fun d => (d.1.2.2.1.1, (vA d.2.1), (d.2.2.1.1, d.2.2.1.2.1, d.2.2.1.2.2.1), (d.2.2.2.1.1, d.2.2.2.1.2.1, d.2.2.2.1.2.2.1), d.2.2.2.2.1, d.2.2.2.2.2.1, d.2.2.2.2.2.2.1, d.2.2.2.2.2.2.2.1, d.2.2.2.2.2.2.2.2.1)) yAq qMj qQr B4q zL
theorem yZq : qE prog 1000 0 48 (zZ (qD f15) 1) zZ1 := lp (A := A4q) zZ1 (fun d => ((d.2.1.1, d.2.1.2.1, d.2.1.2.2.1), (d.2.2.1.1, d.2.2.1.2.1, d.2.2.1.2.2.1), d.2.2.2.1, d.2.2.2.2.1, d.2.2.2.2.2.1, d.2.2.2.2.2.2.1, d.2.2.2.2.2.2.2.1, d.2.2.2.2.2.2.2.2.1)) yM2 qN7 qUl B4q zL
def R4q : Nat × zJ := zR 15 [.agg zBx] (.agg qYv) (fun k d => zYm k (vA d)) (fun x => (zBq x ()))
theorem F4q : zK prog R4q := fA (rs := .agg qYv) f15 A4q (fun d => (vK d)) B4q (zGk (n := 2) (by kernel_rfl) fun i hi => match i, hi with | 0, _ => ⟨zZn, by kernel_rfl, yRl⟩ | 1, _ => ⟨zZ1, by kernel_rfl, yZq⟩ | i + 2, hi => absurd hi (by omega))
def R5q : Nat × zJ := zR 82 [.c (.int .i64)] (.c (.bool)) (fun k d => qAm k d.1) (fun x => (x, ()))
theorem F5q : zK prog R5q := fA (rs := .c (.bool)) f82 ⟨[], [], true⟩ (fun d => d.1) (zN (l := []) zM trivial) zL
def R6q : Nat × zJ := zR 83 [.c (.int .i64)] (.c (.bool)) (fun k d => zPa k d.1) (fun x => (x, ()))
theorem F6q : zK prog R6q := fA (rs := .c (.bool)) f83 ⟨[], [], true⟩ (fun d => d.1) (zN (l := []) zM trivial) zL
def R7q : Nat × zJ := zR 152 [.c (.int .i64)] (.c (.int .i64)) (fun k d => zUp k d.1) (fun x => (x, ()))
theorem F7q : zK prog R7q := fA (rs := .c (.int .i64)) f152 ⟨[], [], true⟩ (fun d => d.1) (zN (l := []) zM trivial) zL
def yI4 : zF := ⟨[(13, .c (.dat true (.int .i64))), (14, .c (.int .i64)), (15, .c (.int .i64))], [], []⟩
def qVk : zF := ⟨[], [], []⟩
def qWf : zF := ⟨[(2, .c (.bool))], [], []⟩
def qWa (f : qCt) (d : yI4.den) : Option (Unit ⊕ Bool) := f d.1.1.1 d.1.2.1.1 d.1.2.2.1.1
def qOx : qG := ⟨yI4, [(.exit 0, qVk), (.ret, qWf)], (Unit ⊕ Bool), fun k d => qWa (zSn k k) d, fun b x _ K => match x with | .inl x => K (.exit 0) (zT b qVk ((), ())) | .inr x => K .ret (zT b qWf (((x, ()), ()), ()))⟩
def E8q : qC := ⟨prog, fun _ => false, qL [R7q]⟩
def A8q : qA := ⟨[], [(5, qOx)], true⟩
theorem B8q : qJ E8q := zN zM ⟨F7q, trivial⟩
theorem yVs : qE prog 1000 0 22 (zZ (qD f84) 0) qOx := lp (A := A8q) qOx (fun d => match d with | .inl d => .inl () | .inr d => .inr d.1.1.1) qWa zSn zXs B8q zL
def R8q : Nat × zJ := zR 84 [.agg vP] (.c (.bool)) (fun k d => zP9 k (zAz d)) (fun x => (x, ()))
theorem F8q : zK prog R8q := fA (rs := .c (.bool)) f84 A8q (fun d => d.1) B8q (loops1 yVs)
def R9q : Nat × zJ := zR 45 [.agg zBx, .agg zDt, .agg qBx] (.c (.int .i64)) (fun k d => zR3 k (vA d) (zF3 d) (qPp d)) (fun x => (x, ()))
theorem F9q : zK prog R9q := fA (rs := .c (.int .i64)) f45 ⟨[], [], true⟩ (fun d => d.1) (zN (l := [R5q, R6q, R8q]) zM ⟨F5q, F6q, F8q, trivial⟩) zL
def qGo : Nat × zJ := zR 154 [.agg vP, .ptr [.int .i64]] (.c (.bool)) (fun k d => (zCr (qB7 k) d)) (fun x => (x, ()))
theorem vH3 : zK prog qGo := fA (rs := .c (.bool)) f154 ⟨[], [], false⟩ (fun d => d.1) (zN (l := []) zM trivial) zL
def qW6 : zF := ⟨[(1, .c (.lit (.fn 154 [1001000]))), (5, .c (.lit (.osl 1001001 none))), (8, .c (.dat false zI)), (9, .c (.int .i64)), (10, .c (.int .i64))], [.robox [.int .i64], .arr true zI], [(5, none, zI, false)]⟩
def yFl : zF := ⟨[(5, .c (.lit (.osl 1001000 none)))], [.arr true zI], []⟩
def yE7 (f : qEx) (d : qW6.den) : Option zTn := f d.1.2.2.1.1 d.1.2.2.2.1.1 d.1.2.2.2.2.1.1 d.2.1.1 d.2.2.1
def qJi : qG := ⟨qW6, [(.exit 0, yFl)], zTn, fun k d => yE7 (zO9 k k) d, fun b x _ K => K (.exit 0) (zT b yFl (((), ()), (x, ())))⟩
def yZ3 : qC := ⟨prog, fun _ => false, qL [qGo]⟩
def qY7 : qA := ⟨[], [(3, qJi)], false⟩
theorem yNl : qJ yZ3 := zN zM ⟨vH3, trivial⟩
theorem vFq : qE prog 1000 0 23 (zZ (qD f153) 0) qJi := lp (A := qY7) qJi (fun d => d.2.1) yE7 zO9 zKr yNl zL
def yLu : Nat × zJ := zR 153 [.c (.dat false zI), .fn 154 [[.int .i64]]] (.c (.own zI)) (fun k d => qPk k d.1 d.2.1) (fun x => (x, ()))
theorem vE1 : zK prog yLu := fA (rs := .c (.own zI)) f153 qY7 (fun d => d.1) yNl (loops1 vFq)
def zV7 : Nat × zJ := zR 85 [.c (.dat false zI), .c (.int .i64)] (.c (.own zI)) (fun k d => zP7 k d.1 d.2.1) (fun x => (x, ()))
theorem yI1 : zK prog zV7 := fA (rs := .c (.own zI)) f85 ⟨[], [], false⟩ (fun d => d.1) (zN (l := [yLu]) zM ⟨vE1, trivial⟩) zL
def yG2 : Nat × zJ := wU 47 [.ptr true [.p (.int .i64), .p (.nil), .p (.int .i64), .p (.int .i64), .p (.int .i64), .p (.int .i64), .p (.nil), .p (.nil), .p (.nil), .p (.nil), .p (.nil), .p (.nil), .p (.nil), .p (.nil), .p (.int .i64), .p (.bool), .p (.int .i64), .p (.nil)], .c (.p (.int .i64)), .c (.p (.dat false (.int .i64)))] (.tup []) [yNf] (fun k d => yEm k (d.1, (zTl d (d.2.2.2.2.2.2.2.2.2.2.2.2.2.2.1, d.2.2.2.2.2.2.2.2.2.2.2.2.2.2.2.1, d.2.2.2.2.2.2.2.2.2.2.2.2.2.2.2.2.1))) d.2.2.2.2.2.2.2.2.2.2.2.2.2.2.2.2.2.2.1 d.2.2.2.2.2.2.2.2.2.2.2.2.2.2.2.2.2.2.2.1) (fun x => (zAb x ()))
theorem vB5 : zK prog yG2 := fX (rs := .tup []) (os := [yNf]) f47 ⟨[], [], true⟩ 1 (fun d => (zAq d)) (zN (l := []) zM trivial) zL
def yNp : Nat × zJ := zR 46 [.agg zDt, .c (.int .i64)] (.c (.own yR)) (fun k d => zXp k (vK d) d.2.2.2.2.2.2.2.2.2.2.2.1) (fun x => (x, ()))
theorem vB2 : zK prog yNp := fA (rs := .c (.own yR)) f46 ⟨[], [], true⟩ (fun d => d.1) (zN (l := [zV7, yG2]) zM ⟨yI1, vB5, trivial⟩) zL
def qBf : Nat × zJ := wU 47 [.ptr true zGl, .c (.p (.int .i64)), .c (.p (.dat false (.int .i64)))] (.tup []) [vT] (fun k d => zZw k (zBa d) d.2.2.2.2.2.2.2.2.2.2.2.2.2.2.2.2.2.2.1 d.2.2.2.2.2.2.2.2.2.2.2.2.2.2.2.2.2.2.2.1) (fun x => (zAb x ()))
theorem qTc : zK prog qBf := fX (rs := .tup []) (os := [vT]) f47 ⟨[], [], true⟩ 1 (fun d => (zAq d)) (zN (l := []) zM trivial) zL
def jV : Nat × zJ := zR 64 [.c (.int .i64), .c (.int .i64), .c (.int .i64)] (.c (.bool)) (fun k d => yQ k d.1 d.2.1 d.2.2.1) (fun x => (x, ()))
theorem zA3 : zK prog jV := fA (rs := .c (.bool)) f64 ⟨[], [], true⟩ (fun d => d.1) (zN (l := []) zM trivial) zL
def qZc : Nat × zJ := zR 243 [.agg zBx, .c (.int .i64)] (.c (.bool)) (fun k d => zO6 k (vA d) d.2.2.2.2.2.1) (fun x => (x, ()))
theorem vFt : zK prog qZc := fA (rs := .c (.bool)) f243 ⟨[], [], true⟩ (fun d => d.1) (zN (l := []) zM trivial) zL
def yCz : Nat × zJ := zR 206 [.agg zBx, .c (.int .i64), .agg vP] (.c (.bool)) (fun k d => zYa k (vA d) d.2.2.2.2.2.1 (yB8 d)) (fun x => (x, ()))
theorem yWn : zK prog yCz := fA (rs := .c (.bool)) f206 ⟨[], [], true⟩ (fun d => d.1) (zN (l := [qZc]) zM ⟨vFt, trivial⟩) zL
def qA6 : Nat × zJ := zR 160 [.agg zBx, .c (.int .i64), .c (.int .i64)] (.c (.int .i64)) (fun k d => zHh k (vA d) d.2.2.2.2.2.1 d.2.2.2.2.2.2.1) (fun x => (x, ()))
theorem qPe : zK prog qA6 := fA (rs := .c (.int .i64)) f160 ⟨[], [], true⟩ (fun d => d.1) (zN (l := []) zM trivial) zL
def qId : Nat × zJ := zR 155 [.agg zBx, .c (.int .i64), .agg vP] (.c (.int .i64)) (fun k d => zJo k (vA d) d.2.2.2.2.2.1 (yB8 d)) (fun x => (x, ()))
theorem yA2 : zK prog qId := fA (rs := .c (.int .i64)) f155 ⟨[], [], true⟩ (fun d => d.1) (zN (l := [yCz, qA6]) zM ⟨yWn, qPe, trivial⟩) zL
def yCn : Nat × zJ := zR 255 [.c (.int .i64)] (.c (.bool)) (fun k d => zXe k d.1) (fun x => (x, ()))
theorem yZm : zK prog yCn := fA (rs := .c (.bool)) f255 ⟨[], [], true⟩ (fun d => d.1) (zN (l := []) zM trivial) zL
def qFl : Nat × zJ := zR 230 [.c (.int .i64), .c (.int .i64)] (.c (.bool)) (fun k d => qAe k d.1 d.2.1) (fun x => (x, ()))
theorem vH5 : zK prog qFl := fA (rs := .c (.bool)) f230 ⟨[], [], true⟩ (fun d => d.1) (zN (l := [yCn]) zM ⟨yZm, trivial⟩) zL
def qBv : Nat × zJ := zR 231 [.c (.int .i64)] (.c (.bool)) (fun k d => zZl k d.1) (fun x => (x, ()))
theorem vIx : zK prog qBv := fA (rs := .c (.bool)) f231 ⟨[], [], true⟩ (fun d => d.1) (zN (l := []) zM trivial) zL
def yBj : zF := ⟨[(0, .c (.dat false (.int .i64))), (1, .c (.int .i64)), (6, .c (.int .i64)), (7, .c (.int .i64)), (8, .c (.int .i64))], [], []⟩
def yCh : zF := ⟨[(0, .c (.dat false (.int .i64))), (1, .c (.int .i64)), (6, .c (.int .i64)), (7, .c (.int .i64))], [], []⟩
def yKg (f : qOf) (d : yBj.den) : Option zUq := f d.1.1.1 d.1.2.1.1 d.1.2.2.1.1 d.1.2.2.2.1.1 d.1.2.2.2.2.1.1
def qPo : qG := ⟨yBj, [(.exit 0, yCh)], zUq, fun k d => yKg (zQz k k) d, fun b x _ K => K (.exit 0) (zT b yCh (((x.1, ()), (x.2.1, ()), (x.2.2.1, ()), (x.2.2.2, ()), ()), ()))⟩
def yPp : qC := ⟨prog, fun _ => false, qL [qFl, qBv]⟩
def yDc : qA := ⟨[], [(3, qPo)], true⟩
theorem yIu : qJ yPp := zN zM ⟨vH5, vIx, trivial⟩
theorem yTt : qE prog 1000 0 54 (zZ (qD f192) 0) qPo := lp (A := yDc) qPo (fun d => (d.1.1.1, d.1.2.1.1, d.1.2.2.1.1, d.1.2.2.2.1.1)) yKg zQz zT6 yIu zL
def qEm : Nat × zJ := zR 192 [.c (.dat false (.int .i64)), .c (.int .i64)] (.tup [(false, qX), (false, [.bool])]) (fun k d => zKp k d.1 d.2.1) (fun x => (x.1, x.2, ()))
theorem yIa : zK prog qEm := fA (rs := .tup [(false, qX), (false, [.bool])]) f192 yDc (fun d => (d.1, d.2.1)) yIu (loops1 yTt)
def zLf : Nat × zJ := zIw 208 false (.int .i64) (.own (.int .i64)) zDy
theorem zVn : zK prog zLf := fC f208 ⟨[], [], false⟩ (zN (l := []) zM trivial) zL
theorem vHq (A X : Option Addr) (n c vc : Nat) (w w' : World) (rv : Value) (hr : (Builtin.append_ #[29, 29] 29 #[.slice A n c, .slice X 1 vc]).run prog w = .ok rv w') :
    Calls prog 207 #[.slice A n c, .int .i64 n, .slice X 1 vc] w fun e w'' => e = .returned rv ∧ w'' = w' := by
  have t0 : prog.underlying 29 = some (.slice 2) := by kernel_rfl
  have t3 : prog.underlying 3 = some (.int .i64) := by kernel_rfl
  have z0 : ∀ w, (Go.sizeOf 2).run prog w = .ok 1 w := fun w => by kernel_rfl
  have u0 := run_underlying t0; have u3 := run_underlying t3
  go_enter Proofs.Tryz.func207, Proofs.Tryz.ntmps207
  go_wp2_with (at_builtin; refine Lib.wpList_append_run _ rfl _ _ _ _ rfl _ _ rfl rfl _ _ hr ?_)
  all_goals (go_ret; exact ⟨rfl, rfl⟩)
theorem vBf : zTi prog 207 29 3 1 where
  ends := vHq
  grow B off n c i X vo vc N G w w1 w2 w3 hi hnc hroom h63 hG hz hA hB := by
    simp only [Nat.mul_one] at hA hB
    have t0 : prog.underlying 29 = some (.slice 2) := by kernel_rfl
    have t3 : prog.underlying 3 = some (.int .i64) := by kernel_rfl
    have z0 : ∀ w, (Go.sizeOf 2).run prog w = .ok 1 w := fun w => by kernel_rfl
    have u0 := run_underlying t0; have u3 := run_underlying t3
    have mixed : prog.follows .mixedOrders = true := zM
    have hz2 : ¬ ((i : Int) = (n : Int)) := by omega
    have hw1 : IntKind.i64.wrap ((i : Int) + 1) = (i : Int) + 1 := by rw [IntKind.wrap_i64]; omega
    have hb1 : (0 : Int) ≤ (i : Int) + 1 := by omega
    have hin : i ≤ n := by omega
    have htn : ((i : Int) + 1).toNat = i + 1 := by omega
    have hci : ¬ (c = i) := by omega
    have hz3 : (c : Int) < (n : Int) + 1 := by omega
    have hb3 : (i : Int) ≤ (n : Int) := by omega
    have hGi : ¬ (G = i) := by omega
    have hGim : ¬ (G = i + 1) := by omega
    go_enter Proofs.Tryz.func207, Proofs.Tryz.ntmps207
    go_wp2_with (first
      | (at_builtin; refine Lib.wpList_append_run _ rfl _ _ _ _ rfl _ _ rfl rfl _ _ hz ?_)
      | (at_builtin; refine qAv _ rfl _ _ 29 29 rfl _ _ rfl rfl (hA _) ?_))
    go_region_law_o (refine zZ2 rfl _ _ 29 29 rfl (.slice (some ⟨N, (i + 1), none⟩) (n + 1 - (i + 1)) (G - (i + 1))) (.slice (some ⟨B, off + i, none⟩) (n - i) (c - i)) (by simp [Act.eval, Act.put]) (by simp [Act.eval, Act.put]) (hB (G - (i + 1)) (c - i)) ?_)
    go_wp2
    go_ret
    exact ⟨rfl, rfl⟩
  shift B off n c i X vo vc w w1 w2 hi hroom h63 hap hA hB := by
    simp only [Nat.mul_one] at hA hB
    have t0 : prog.underlying 29 = some (.slice 2) := by kernel_rfl
    have t3 : prog.underlying 3 = some (.int .i64) := by kernel_rfl
    have z0 : ∀ w, (Go.sizeOf 2).run prog w = .ok 1 w := fun w => by kernel_rfl
    have u0 := run_underlying t0; have u3 := run_underlying t3
    have mixed : prog.follows .mixedOrders = true := zM
    have hz2 : ¬ ((i : Int) = (n : Int)) := by omega
    have hw1 : IntKind.i64.wrap ((i : Int) + 1) = (i : Int) + 1 := by rw [IntKind.wrap_i64]; omega
    have hb1 : (0 : Int) ≤ (i : Int) + 1 := by omega
    have hin : i ≤ n := by omega
    have htn : ((i : Int) + 1).toNat = i + 1 := by omega
    have hci : ¬ (c = i) := by omega
    have hov := fun lb cb => yHg (P := prog) (fo := 244) (tb := 4) (e := 2) (size := 1) Proofs.Tryz.func244 (by kernel_rfl) (by kernel_rfl) (by kernel_rfl) (by kernel_rfl) t0 z0 hap vo (off + (i + 1)) vc lb cb
    have hb2 : ¬ (c = i + 1) := by omega
    have hb3 : (i : Int) ≤ (n : Int) + 1 := by omega
    go_enter Proofs.Tryz.func207, Proofs.Tryz.ntmps207
    go_wp2_with (simp only [hov])
    go_region_law_o (refine zZ2 rfl _ _ 29 29 rfl (.slice (some ⟨B, off + (i + 1), none⟩) (n - i) (c - (i + 1))) (.slice (some ⟨B, off + i, none⟩) (n + 1 - i) (c - i)) (by simp [Act.eval, Act.put]) (by simp [Act.eval, Act.put]) (hA _ _) ?_)
    go_wp2_with (at_builtin; refine qAv _ rfl _ _ 29 29 rfl _ _ rfl rfl (hB _) ?_)
    go_ret
    exact ⟨rfl, rfl⟩
def qU0 : Nat × zJ := (207, qM7 (.int .i64) 8)
theorem vHd : zK prog qU0 := yJx (e := 2) (fn := f207) vBf
def qLn : Nat × zJ := zR 156 [.c (.dat true (.int .i64)), .c (.int .i64)] (.tup [(false, [.fro (.int .i64)]), (false, qX)]) (fun k d => zKv k d.1 d.2.1) (fun x => (x.1, x.2, ()))
theorem qXo : zK prog qLn := fA (rs := .tup [(false, [.fro (.int .i64)]), (false, qX)]) f156 ⟨[], [], true⟩ (fun d => (d.1, d.2.1)) (zN (l := [qEm, zLf, qU0]) zM ⟨yIa, zVn, vHd, trivial⟩) zL
def qGm : Nat × zJ := zR 99 [.agg vP, .ptr [.int .i64]] (.c (.bool)) (fun k d => (zCr (qIm k) d)) (fun x => (x, ()))
theorem vHa : zK prog qGm := fA (rs := .c (.bool)) f99 ⟨[], [], false⟩ (fun d => d.1) (zN (l := []) zM trivial) zL
def qUe : zF := ⟨[(0, .c (.dat false zI)), (1, .c (.lit (.fn 99 [1001000]))), (7, .c (.int .i64)), (8, .c (.int .i64))], [.robox [.int .i64]], []⟩
def yLd : zF := ⟨[], [], []⟩
def yC9 : zF := ⟨[(4, .c (.int .i64))], [], []⟩
def yGc (f : qLo) (d : qUe.den) : Option (Unit ⊕ Int) := f d.1.1.1 d.1.2.2.1.1 d.1.2.2.2.1.1 d.2.1.1
def qGs : qG := ⟨qUe, [(.exit 0, yLd), (.ret, yC9)], (Unit ⊕ Int), fun k d => yGc (zNi k k) d, fun b x _ K => match x with | .inl x => K (.exit 0) (zT b yLd ((), ())) | .inr x => K .ret (zT b yC9 (((x, ()), ()), ()))⟩
def vC7 : qC := ⟨prog, fun _ => false, qL [qGm]⟩
def yNd : qA := ⟨[], [(2, qGs)], false⟩
theorem qQ1 : qJ vC7 := zN zM ⟨vHa, trivial⟩
theorem yVe : qE prog 1000 0 19 (zZ (qD f98) 0) qGs := lp (A := yNd) qGs (fun d => match d with | .inl d => .inl () | .inr d => .inr d.1.1.1) yGc zNi zLp qQ1 zL
def qWu : Nat × zJ := zR 98 [.c (.dat false zI), .fn 99 [[.int .i64]]] (.c (.int .i64)) (fun k d => qNd k d.1 d.2.1) (fun x => (x, ()))
theorem vDc : zK prog qWu := fA (rs := .c (.int .i64)) f98 yNd (fun d => d.1) qQ1 (loops1 yVe)
def zE6 : Nat × zJ := zR 51 [.c (.dat false zI), .c (.int .i64)] (.c (.int .i64)) (fun k d => zCw k d.1 d.2.1) (fun x => (x, ()))
theorem zN2 : zK prog zE6 := fA (rs := .c (.int .i64)) f51 ⟨[], [], false⟩ (fun d => d.1) (zN (l := [qWu]) zM ⟨vDc, trivial⟩) zL
def qVu : Nat × zJ := zR 256 [.c (.int .i64)] (.c (.bool)) (fun k d => zTz k d.1) (fun x => (x, ()))
theorem yS4 : zK prog qVu := fA (rs := .c (.bool)) f256 ⟨[], [], false⟩ (fun d => d.1) (zN (l := []) zM trivial) zL
def yOx : Nat × zJ := zR 233 [.c (.int .i64), .c (.int .i64)] (.c (.int .i64)) (fun k d => zQ4 k d.1 d.2.1) (fun x => (x, ()))
theorem vHr : zK prog yOx := fA (rs := .c (.int .i64)) f233 ⟨[], [], false⟩ (fun d => d.1) (zN (l := [qVu]) zM ⟨yS4, trivial⟩) zL
def yHt : zF := ⟨[(3, .c (.int .i64)), (6, .c (.dat false (.int .i64))), (7, .c (.int .i64)), (8, .c (.int .i64))], [], []⟩
def yE2 : zF := ⟨[(3, .c (.int .i64))], [], []⟩
def yEc : zF := ⟨[(2, .c (.int .i64))], [], []⟩
def yKv (f : qC1) (d : yHt.den) : Option (Int ⊕ Int) := f d.1.1.1 d.1.2.1.1 d.1.2.2.1.1 d.1.2.2.2.1.1
def qHh : qG := ⟨yHt, [(.exit 0, yE2), (.ret, yEc)], (Int ⊕ Int), fun k d => yKv (zKh k k) d, fun b x _ K => match x with | .inl x => K (.exit 0) (zT b yE2 (((x, ()), ()), ())) | .inr x => K .ret (zT b yEc (((x, ()), ()), ()))⟩
def yY7 : qC := ⟨prog, fun _ => false, qL []⟩
def yKl : qA := ⟨[], [(3, qHh)], false⟩
theorem qXx : qJ yY7 := zN zM trivial
theorem yT7 : qE prog 1000 0 18 (zZ (qD f232) 0) qHh := lp (A := yKl) qHh (fun d => match d with | .inl d => .inl d.1.1.1 | .inr d => .inr d.1.1.1) yKv zKh yGn qXx zL
def qUz : Nat × zJ := zR 232 [.c (.dat false (.int .i64))] (.c (.int .i64)) (fun k d => zZ6 k d.1) (fun x => (x, ()))
theorem yVw : zK prog qUz := fA (rs := .c (.int .i64)) f232 yKl (fun d => d.1) qXx (loops1 yT7)
def zIe : Nat × zJ := zR 194 [.agg vP, .agg vP] (.c (.int .i64)) (fun k d => (zJ3 (zMf k) d)) (fun x => (x, ()))
theorem qP3 : zK prog zIe := fA (rs := .c (.int .i64)) f194 ⟨[], [], false⟩ (fun d => d.1) (zN (l := [yOx, qUz]) zM ⟨vHr, yVw, trivial⟩) zL
def zOz : Nat × zJ := zIw 210 false zI (.own zI) zF8
theorem qO4 : zK prog zOz := fC f210 ⟨[], [], false⟩ (zN (l := []) zM trivial) zL
theorem yX0 (A X : Option Addr) (n c vc : Nat) (w w' : World) (rv : Value) (hr : (Builtin.append_ #[32, 32] 32 #[.slice A n c, .slice X 1 vc]).run prog w = .ok rv w') :
    Calls prog 209 #[.slice A n c, .int .i64 n, .slice X 1 vc] w fun e w'' => e = .returned rv ∧ w'' = w' := by
  have t0 : prog.underlying 32 = some (.slice 52) := by kernel_rfl
  have t3 : prog.underlying 3 = some (.int .i64) := by kernel_rfl
  have z0 : ∀ w, (Go.sizeOf 52).run prog w = .ok 7 w := fun w => by kernel_rfl
  have u0 := run_underlying t0; have u3 := run_underlying t3
  go_enter Proofs.Tryz.func209, Proofs.Tryz.ntmps209
  go_wp2_with (at_builtin; refine Lib.wpList_append_run _ rfl _ _ _ _ rfl _ _ rfl rfl _ _ hr ?_)
  all_goals (go_ret; exact ⟨rfl, rfl⟩)
theorem vE6 : zTi prog 209 32 3 7 where
  ends := yX0
  grow B off n c i X vo vc N G w w1 w2 w3 hi hnc hroom h63 hG hz hA hB := by
    have t0 : prog.underlying 32 = some (.slice 52) := by kernel_rfl
    have t3 : prog.underlying 3 = some (.int .i64) := by kernel_rfl
    have z0 : ∀ w, (Go.sizeOf 52).run prog w = .ok 7 w := fun w => by kernel_rfl
    have u0 := run_underlying t0; have u3 := run_underlying t3
    have mixed : prog.follows .mixedOrders = true := zM
    have hz2 : ¬ ((i : Int) = (n : Int)) := by omega
    have hw1 : IntKind.i64.wrap ((i : Int) + 1) = (i : Int) + 1 := by rw [IntKind.wrap_i64]; omega
    have hb1 : (0 : Int) ≤ (i : Int) + 1 := by omega
    have hin : i ≤ n := by omega
    have htn : ((i : Int) + 1).toNat = i + 1 := by omega
    have hci : ¬ (c = i) := by omega
    have hz3 : (c : Int) < (n : Int) + 1 := by omega
    have hb3 : (i : Int) ≤ (n : Int) := by omega
    have hGi : ¬ (G = i) := by omega
    have hGim : ¬ (G = i + 1) := by omega
    go_enter Proofs.Tryz.func209, Proofs.Tryz.ntmps209
    go_wp2_with (first
      | (at_builtin; refine Lib.wpList_append_run _ rfl _ _ _ _ rfl _ _ rfl rfl _ _ hz ?_)
      | (at_builtin; refine qAv _ rfl _ _ 32 32 rfl _ _ rfl rfl (hA _) ?_))
    go_region_law_o (refine zZ2 rfl _ _ 32 32 rfl (.slice (some ⟨N, (i + 1) * 7, none⟩) (n + 1 - (i + 1)) (G - (i + 1))) (.slice (some ⟨B, off + i * 7, none⟩) (n - i) (c - i)) (by simp [Act.eval, Act.put]) (by simp [Act.eval, Act.put]) (hB (G - (i + 1)) (c - i)) ?_)
    go_wp2
    go_ret
    exact ⟨rfl, rfl⟩
  shift B off n c i X vo vc w w1 w2 hi hroom h63 hap hA hB := by
    have t0 : prog.underlying 32 = some (.slice 52) := by kernel_rfl
    have t3 : prog.underlying 3 = some (.int .i64) := by kernel_rfl
    have z0 : ∀ w, (Go.sizeOf 52).run prog w = .ok 7 w := fun w => by kernel_rfl
    have u0 := run_underlying t0; have u3 := run_underlying t3
    have mixed : prog.follows .mixedOrders = true := zM
    have hz2 : ¬ ((i : Int) = (n : Int)) := by omega
    have hw1 : IntKind.i64.wrap ((i : Int) + 1) = (i : Int) + 1 := by rw [IntKind.wrap_i64]; omega
    have hb1 : (0 : Int) ≤ (i : Int) + 1 := by omega
    have hin : i ≤ n := by omega
    have htn : ((i : Int) + 1).toNat = i + 1 := by omega
    have hci : ¬ (c = i) := by omega
    have hov := fun lb cb => yHg (P := prog) (fo := 246) (tb := 4) (e := 52) (size := 7) Proofs.Tryz.func246 (by kernel_rfl) (by kernel_rfl) (by kernel_rfl) (by kernel_rfl) t0 z0 hap vo (off + (i + 1) * 7) vc lb cb
    have hb2 : ¬ (c = i + 1) := by omega
    have hb3 : (i : Int) ≤ (n : Int) + 1 := by omega
    go_enter Proofs.Tryz.func209, Proofs.Tryz.ntmps209
    go_wp2_with (simp only [hov])
    go_region_law_o (refine zZ2 rfl _ _ 32 32 rfl (.slice (some ⟨B, off + (i + 1) * 7, none⟩) (n - i) (c - (i + 1))) (.slice (some ⟨B, off + i * 7, none⟩) (n + 1 - i) (c - i)) (by simp [Act.eval, Act.put]) (by simp [Act.eval, Act.put]) (hA _ _) ?_)
    go_wp2_with (at_builtin; refine qAv _ rfl _ _ 32 32 rfl _ _ rfl rfl (hB _) ?_)
    go_ret
    exact ⟨rfl, rfl⟩
def zPk : Nat × zJ := (209, qM7 zI 56)
theorem qXb : zK prog zPk := yJx (e := 52) (fn := f209) vE6
def qT5 : zF := ⟨[(0, .c (.dat true zI)), (3, .c (.lit (.ptr 1001000 0))), (6, .c (.int .i64))], [.box true zCf], []⟩
def yH6 : zF := ⟨[(0, .c (.dat true zI)), (3, .c (.lit (.ptr 1001000 0))), (6, .c (.int .i64))], [.box true zCf], []⟩
def yJl (f : qOd) (d : qT5.den) : Option zY7 := f d.1.1.1 d.1.2.2.1.1 (zAz d.2.1)
def qOr : qG := ⟨qT5, [(.exit 1, yH6)], zY7, fun k d => yJl (zM5 k k) d, fun b x _ K => K (.exit 1) (zT b yH6 (((x.1, ()), (), (x.2.1, ()), ()), ((zB3 x.2.2 ()), ())))⟩
def yTo : qC := ⟨prog, fun _ => false, qL [zE6, zIe, zOz, zPk]⟩
def yKo : qA := ⟨[], [(6, qOr)], true⟩
theorem yG1 : qJ yTo := zN zM ⟨zN2, qP3, qO4, qXb, trivial⟩
theorem yWa : qE prog 1000 0 40 (zZ (qD f157) 0) qOr := lp (A := yKo) qOr (fun d => (d.1.1.1, d.1.2.2.1.1, (zAz d.2.1))) yJl zM5 zOc yG1 zL
def zP0 : Nat × zJ := zR 157 [.c (.dat true zI), .agg vP] (.tup [(false, [.fro zI]), (false, qX)]) (fun k d => zF2 k d.1 (zQp d)) (fun x => (x.1, x.2, ()))
theorem zZh : zK prog zP0 := fA (rs := .tup [(false, [.fro zI]), (false, qX)]) f157 yKo (fun d => (d.1, d.2.1)) yG1 (loops1 yWa)
def yFn : Nat × zJ := wU 86 [.ptr true zHa, .agg [.int .i64, .int .i64, .int .i64, .int .i64, .int .i64, .int .i64]] (.c (.int .i64)) [vT] (fun k d => zT1 k (zAq d) (yDw d)) (fun x => (x.1, (zAb x.2 ())))
theorem vB1 : zK prog yFn := fX (rs := .c (.int .i64)) (os := [vT]) f86 ⟨[], [], true⟩ 1 (fun d => (d.1, (zBu d))) (zN (l := [jV, qId, qLn, zP0]) zM ⟨zA3, yA2, qXo, zZh, trivial⟩) zL
def qDd : Nat × zJ := zR 158 [.ptr qDg, .c (.int .i64)] (.tup [(true, zCx), (false, qX)]) (fun k d => qP5 k (zAq d) d.2.2.2.2.2.2.2.2.2.2.2.2.2.2.2.2.2.2.1) (fun x => (zB3 x.1 (x.2, ())))
theorem yLp : zK prog qDd := fA (rs := .tup [(true, zCx), (false, qX)]) f158 ⟨[], [], true⟩ (fun d => ((zAz d), d.2.2.2.2.2.2.2.1)) (zN (l := [zE6]) zM ⟨zN2, trivial⟩) zL
def qKt : Nat × zJ := wU 211 [.c (.own zI), .c (.p (.int .i64)), .c (.p (.int .i64))] (.c (.own zI)) [] (fun k d => zQj k d.1 d.2.1 d.2.2.1) (fun x => (x, ()))
theorem qZ6 : zK prog qKt := fX (rs := .c (.own zI)) (os := []) f211 ⟨[], [], false⟩ 0 (fun d => d.1) (zN (l := []) zM trivial) zL
def zC7 : Nat × zJ := zR 159 [.c (.dat true zI), .c (.int .i64)] (.tup [(false, [.fro zI]), (true, zCx), (false, qX)]) (fun k d => zDv k d.1 d.2.1) (fun x => (qOn x ()))
theorem zIp : zK prog zC7 := fA (rs := .tup [(false, [.fro zI]), (true, zCx), (false, qX)]) f159 ⟨[], [], false⟩ (fun d => (qJm d)) (zN (l := [zE6, zOz, qKt]) zM ⟨zN2, qO4, qZ6, trivial⟩) zL
def qE9 : Nat × zJ := wU 47 [.ptr true zHa, .c (.p (.int .i64)), .c (.p (.dat false (.int .i64)))] (.tup []) [vT] (fun k d => zF9 k (zAq d) d.2.2.2.2.2.2.2.2.2.2.2.2.2.2.2.2.2.2.1 d.2.2.2.2.2.2.2.2.2.2.2.2.2.2.2.2.2.2.2.1) (fun x => (zAb x ()))
theorem yC6 : zK prog qE9 := fX (rs := .tup []) (os := [vT]) f47 ⟨[], [], true⟩ 1 (fun d => (zAq d)) (zN (l := []) zM trivial) zL
def qD0 : Nat × zJ := zR 161 [.c (.dat true zI), .c (.int .i64), .c (.int .i64)] (.tup [(false, [.fro zI]), (false, qX)]) (fun k d => zJ7 k d.1 d.2.1 d.2.2.1) (fun x => (x.1, x.2, ()))
theorem qY5 : zK prog qD0 := fA (rs := .tup [(false, [.fro zI]), (false, qX)]) f161 ⟨[], [], true⟩ (fun d => (d.1, d.2.1)) (zN (l := [zC7, zP0]) zM ⟨zIp, zZh, trivial⟩) zL
def qIl : Nat × zJ := zR 159 [.c (.dat false zI), .c (.int .i64)] (.tup [(false, [.own zI]), (true, zCx), (false, qX)]) (fun k d => qHx k d.1 d.2.1) (fun x => (qOn x ()))
theorem yT1 : zK prog qIl := fA (rs := .tup [(false, [.own zI]), (true, zCx), (false, qX)]) f159 ⟨[], [], false⟩ (fun d => (qJm d)) (zN (l := [zE6, zOz, qKt]) zM ⟨zN2, qO4, qZ6, trivial⟩) zL
def yOg : zF := ⟨[(6, .c (.lit (.osl 1001000 none))), (7, .c (.lit (.ptr 1001001 0))), (9, .c (.int .i64))], [.arr true zI, .box true zCf], []⟩
def yNt : zF := ⟨[(6, .c (.lit (.osl 1001000 none))), (7, .c (.lit (.ptr 1001001 0))), (9, .c (.int .i64))], [.arr true zI, .box true zCf], []⟩
def yMo (f : qCj) (d : yOg.den) : Option zUv := f d.1.2.2.1.1 d.2.1 (zAz d.2.2.1)
def qCr : qG := ⟨yOg, [(.exit 0, yNt)], zUv, fun k d => yMo (zJq k k) d, fun b x _ K => K (.exit 0) (zT b yNt (((), (), (x.1, ()), ()), (x.2.1, (zB3 x.2.2 ()), ())))⟩
def vI5 : qC := ⟨prog, fun _ => false, qL [qIl, zIe, zPk]⟩
def yI2 : qA := ⟨[], [(5, qCr)], true⟩
theorem yCq : qJ vI5 := zN zM ⟨yT1, qP3, qXb, trivial⟩
theorem ySg : qE prog 1000 0 41 (zZ (qD f162) 0) qCr := lp (A := yI2) qCr (fun d => (d.1.2.2.1.1, d.2.1, (zAz d.2.2.1))) yMo zJq zMp yCq zL
def qJr : Nat × zJ := zR 162 [.c (.dat true zI), .c (.int .i64)] (.tup [(false, [.fro zI]), (false, qX)]) (fun k d => zKl k d.1 d.2.1) (fun x => (x.1, x.2, ()))
theorem yLi : zK prog qJr := fA (rs := .tup [(false, [.fro zI]), (false, qX)]) f162 yI2 (fun d => (d.1, d.2.1)) yCq (loops1 ySg)
def qG7 : Nat × zJ := zR 163 [.c (.dat true zI), .c (.int .i64)] (.tup [(false, [.fro zI]), (false, qX)]) (fun k d => zOf k d.1 d.2.1) (fun x => (x.1, x.2, ()))
theorem yCs : zK prog qG7 := fA (rs := .tup [(false, [.fro zI]), (false, qX)]) f163 ⟨[], [], true⟩ (fun d => (d.1, d.2.1)) (zN (l := [zC7, zP0]) zM ⟨zIp, zZh, trivial⟩) zL
def qZq : Nat × zJ := wU 87 [.ptr true zHa, .agg vP] (.c (.int .i64)) [vT] (fun k d => zI4 k (zAq d) (zMq d)) (fun x => (x.1, (zAb x.2 ())))
theorem ySf : zK prog qZq := fX (rs := .c (.int .i64)) (os := [vT]) f87 ⟨[], [], true⟩ 1 (fun d => (d.1, (zBu d))) (zN (l := [qDd, zC7, qE9, jV, qA6, qD0, qJr, qG7]) zM ⟨yLp, zIp, yC6, zA3, qPe, qY5, yLi, yCs, trivial⟩) zL
def yJt : Nat × zJ := zIw 212 false yI (.own yI) qLz
theorem yUe : zK prog yJt := fC f212 ⟨[], [], false⟩ (zN (l := []) zM trivial) zL
def qF3 : Nat × zJ := zIw 167 true (.sl (.int .i64)) (.jun) qO3
theorem vHj : zK prog qF3 := fC f167 ⟨[], [], false⟩ (zN (l := []) zM trivial) zL
def yD6 : zF := ⟨[(3, .c (.lit (.osl 1001000 none))), (8, .c (.dat true (.sl (.int .i64)))), (9, .c (.int .i64)), (10, .c (.int .i64))], [.pmat], []⟩
def qSr : zF := ⟨[(3, .c (.lit (.osl 1001000 none)))], [.pmat], []⟩
def yGb (f : qCe) (d : yD6.den) : Option ((List (List Int)) × Nat) := f d.1.2.1.1 d.1.2.2.1.1 d.1.2.2.2.1.1 d.2.1.1 d.2.1.2
def qMa : qG := ⟨yD6, [(.exit 0, qSr)], ((List (List Int)) × Nat), fun k d => yGb (zSp k k) d, fun b x _ K => K (.exit 0) (zT b qSr (((), ()), ((x.1, x.2), ())))⟩
def vC8 : qC := ⟨prog, fun _ => false, qL [qF3, zLf]⟩
def yI6 : qA := ⟨[], [(3, qMa)], false⟩
theorem qQd : qJ vC8 := zN zM ⟨vHj, zVn, trivial⟩
theorem ySt : qE prog 1000 0 22 (zZ (qD f213) 0) qMa := lp (A := yI6) qMa (fun d => d.2.1) yGb zSp zMc qQd zL
def yLs : Nat × zJ := zR 213 [.c (.dat true (.sl (.int .i64)))] (.c (.mat)) (fun k d => zSr k d.1) (fun x => (x, ()))
theorem yU8 : zK prog yLs := fA (rs := .c (.mat)) f213 yI6 (fun d => d.1) qQd (loops1 ySt)
def zCd : Nat × zJ := zR 164 [.agg [.dat false yI, .dat true (.sl (.int .i64)), .dat false (.int .i64), .dat true (.sl (.int .i64))]] (.agg zZq) (fun k d => (yZ (jL k) d)) (fun x => (zE3 x ()))
theorem zEs : zK prog zCd := fA (rs := .agg zZq) f164 ⟨[], [], false⟩ (fun d => (zFt d)) (zN (l := [yJt, yLs, zLf]) zM ⟨yUe, yU8, zVn, trivial⟩) zL
def qK5 : Nat × zJ := zR 165 [.ptr qDg, .c (.int .i64)] (.c (.bool)) (fun k d => qPb k (zAq d) d.2.2.2.2.2.2.2.2.2.2.2.2.2.2.2.2.2.2.1) (fun x => (x, ()))
theorem qSc : zK prog qK5 := fA (rs := .c (.bool)) f165 ⟨[], [], true⟩ (fun d => d.1) (zN (l := [jV]) zM ⟨zA3, trivial⟩) zL
def yI0 : Nat × zJ := wU 88 [.ptr true zHa, .agg vP] (.c (.int .i64)) [vT] (fun k d => zHn k (zAq d) (zMq d)) (fun x => (x.1, (zAb x.2 ())))
theorem ySy : zK prog yI0 := fX (rs := .c (.int .i64)) (os := [vT]) f88 ⟨[], [], true⟩ 1 (fun d => (d.1, (zBu d))) (zN (l := [zCd, qK5, jV]) zM ⟨zEs, qSc, zA3, trivial⟩) zL
def zI6 : Nat × zJ := zR 166 [.ptr qDg, .c (.int .i64)] (.c (.bool)) (fun k d => zPh k (zAq d) d.2.2.2.2.2.2.2.2.2.2.2.2.2.2.2.2.2.2.1) (fun x => (x, ()))
theorem zTd : zK prog zI6 := fA (rs := .c (.bool)) f166 ⟨[], [], true⟩ (fun d => d.1) (zN (l := [jV]) zM ⟨zA3, trivial⟩) zL
def qMp : Nat × zJ := zIw 167 true (.sl (.int .i64)) (.own (.sl (.int .i64))) zJg
theorem yJr : zK prog qMp := fC f167 ⟨[], [], false⟩ (zN (l := []) zM trivial) zL
def zHk : Nat × zJ := zR 168 [.c (.dat false (.int .i64)), .c (.int .i64), .c (.int .i64)] (.c (.own (.int .i64))) (fun k d => zDj k d.1 d.2.1 d.2.2.1) (fun x => (x, ()))
theorem zVx : zK prog zHk := fA (rs := .c (.own (.int .i64))) f168 ⟨[], [], true⟩ (fun d => d.1) (zN (l := [zLf]) zM ⟨zVn, trivial⟩) zL
def yHx : Nat × zJ := zR 227 [.c (.int .i64)] (.c (.bool)) (fun k d => qLv k d.1) (fun x => (x, ()))
theorem yZx : zK prog yHx := fA (rs := .c (.bool)) f227 ⟨[], [], true⟩ (fun d => d.1) (zN (l := []) zM trivial) zL
def yDg : Nat × zJ := zR 228 [.c (.int .u64), .c (.int .u64)] (.tup [(false, [.int .u64]), (false, [.int .u64])]) (fun k d => zRb k d.1 d.2.1) (fun x => (x.1, x.2, ()))
theorem vFg : zK prog yDg := fA (rs := .tup [(false, [.int .u64]), (false, [.int .u64])]) f228 ⟨[], [], true⟩ (fun d => (d.1, d.2.1)) (zN (l := []) zM trivial) zL
def yKw : Nat × zJ := zR 264 [.c (.int .u64)] (.c (.int .i64)) (fun k d => yBw k d.1) (fun x => (x, ()))
theorem yWt : zK prog yKw := fA (rs := .c (.int .i64)) f264 ⟨[], [], true⟩ (fun d => d.1) (zN (l := []) zM trivial) zL
def qDf : Nat × zJ := zR 254 [.c (.int .u64)] (.c (.int .i64)) (fun k d => yDa k d.1) (fun x => (x, ()))
theorem vGp : zK prog qDf := fA (rs := .c (.int .i64)) f254 ⟨[], [], true⟩ (fun d => d.1) (zN (l := [yKw]) zM ⟨yWt, trivial⟩) zL
def qU4 : zF := ⟨[(2, .c (.int .u64)), (8, .c (.int .u64)), (9, .c (.int .u64)), (10, .c (.int .u64)), (11, .c (.int .u64)), (13, .c (.int .u64)), (14, .c (.int .u64)), (15, .c (.int .u64)), (16, .c (.int .u64))], [], []⟩
def qWp : zF := ⟨[(2, .c (.int .u64)), (8, .c (.int .u64)), (9, .c (.int .u64)), (10, .c (.int .u64)), (11, .c (.int .u64)), (13, .c (.int .u64)), (14, .c (.int .u64)), (15, .c (.int .u64))], [], []⟩
def qVg (f : qJ3) (d : qU4.den) : Option zVh := f d.1.1.1 d.1.2.1.1 d.1.2.2.1.1 d.1.2.2.2.1.1 d.1.2.2.2.2.1.1 d.1.2.2.2.2.2.1.1 d.1.2.2.2.2.2.2.1.1 d.1.2.2.2.2.2.2.2.1.1 d.1.2.2.2.2.2.2.2.2.1.1
def zUj : qG := ⟨qU4, [(.exit 0, qWp)], zVh, fun k d => qVg (qGl k k) d, fun b x _ K => K (.exit 0) (zT b qWp (((x.1, ()), (x.2.1, ()), (x.2.2.1, ()), (x.2.2.2.1, ()), (x.2.2.2.2.1, ()), (x.2.2.2.2.2.1, ()), (x.2.2.2.2.2.2.1, ()), (x.2.2.2.2.2.2.2, ()), ()), ()))⟩
def qZu : zF := ⟨[(2, .c (.int .u64)), (8, .c (.int .u64)), (9, .c (.int .u64)), (10, .c (.int .u64)), (14, .c (.int .u64)), (15, .c (.int .u64)), (16, .c (.int .u64)), (17, .c (.int .u64)), (18, .c (.int .u64))], [], []⟩
def qX3 : zF := ⟨[(2, .c (.int .u64)), (8, .c (.int .u64)), (14, .c (.int .u64)), (15, .c (.int .u64)), (17, .c (.int .u64)), (18, .c (.int .u64))], [], []⟩
def qTd (f : qMh) (d : qZu.den) : Option zXx := f d.1.1.1 d.1.2.1.1 d.1.2.2.1.1 d.1.2.2.2.1.1 d.1.2.2.2.2.1.1 d.1.2.2.2.2.2.1.1 d.1.2.2.2.2.2.2.1.1 d.1.2.2.2.2.2.2.2.1.1 d.1.2.2.2.2.2.2.2.2.1.1
def zU9 : qG := ⟨qZu, [(.exit 2, qX3)], zXx, fun k d => qTd (qCd k k) d, fun b x _ K => K (.exit 2) (zT b qX3 (((x.1, ()), (x.2.1, ()), (x.2.2.1, ()), (x.2.2.2.1, ()), (x.2.2.2.2.1, ()), (x.2.2.2.2.2, ()), ()), ()))⟩
def yUl : qC := ⟨prog, fun _ => false, qL [qDf]⟩
def qJq : qA := ⟨[], [(17, zUj), (24, zU9)], true⟩
theorem qLi : qJ yUl := zN zM ⟨vGp, trivial⟩
theorem vAp : qE prog 1000 0 135 (zZ (qD f229) 0) zUj := lp (A := qJq) zUj (fun d => (d.1.1.1, d.1.2.1.1, d.1.2.2.1.1, d.1.2.2.2.1.1, d.1.2.2.2.2.1.1, d.1.2.2.2.2.2.1.1, d.1.2.2.2.2.2.2.1.1, d.1.2.2.2.2.2.2.2.1.1)) qVg qGl yFm qLi zL
theorem vC4 : qE prog 1000 0 135 (zZ (qD f229) 1) zU9 := lp (A := qJq) zU9 (fun d => (d.1.1.1, d.1.2.1.1, d.1.2.2.1.1, d.1.2.2.2.1.1, d.1.2.2.2.2.1.1, d.1.2.2.2.2.2.1.1)) qTd qCd qWh qLi zL
def qUw : Nat × zJ := zR 229 [.c (.int .u64), .c (.int .u64), .c (.int .u64)] (.tup [(false, [.int .u64]), (false, [.int .u64])]) (fun k d => zY3 k d.1 d.2.1 d.2.2.1) (fun x => (x.1, x.2, ()))
theorem vDk : zK prog qUw := fA (rs := .tup [(false, [.int .u64]), (false, [.int .u64])]) f229 qJq (fun d => (d.1, d.2.1)) qLi (zGk (n := 2) (by kernel_rfl) fun i hi => match i, hi with | 0, _ => ⟨zUj, by kernel_rfl, vAp⟩ | 1, _ => ⟨zU9, by kernel_rfl, vC4⟩ | i + 2, hi => absurd hi (by omega))
def zVi : Nat × zJ := (133, zV9)
theorem yJ9 : zK prog zVi := yTw (fn := f133)
def qE1 : Nat × zJ := zR 191 [.c (.int .i64), .c (.int .i64), .c (.int .i64)] (.tup [(false, qX), (false, [.bool])]) (fun k d => zYo k d.1 d.2.1 d.2.2.1) (fun x => (x.1, x.2, ()))
theorem vJ4 : zK prog qE1 := fA (rs := .tup [(false, qX), (false, [.bool])]) f191 ⟨[], [], true⟩ (fun d => (d.1, d.2.1)) (zN (l := [yHx, yDg, qUw, zVi]) zM ⟨yZx, vFg, vDk, yJ9, trivial⟩) zL
def yLv : zF := ⟨[(4, .c (.int .i64)), (5, .c (.int .u64)), (9, .c (.dat false (.int .i64))), (10, .c (.int .i64)), (11, .c (.int .i64))], [], []⟩
def yDb : zF := ⟨[(4, .c (.int .i64)), (5, .c (.int .u64))], [], []⟩
def qX5 (f : qMv) (d : yLv.den) : Option vQ := f d.1.1.1 d.1.2.1.1 d.1.2.2.1.1 d.1.2.2.2.1.1 d.1.2.2.2.2.1.1
def qF4 : qG := ⟨yLv, [(.exit 0, yDb)], vQ, fun k d => qX5 (zMk k k) d, fun b x _ K => K (.exit 0) (zT b yDb (((x.1, ()), (x.2, ()), ()), ()))⟩
def yV4 : qC := ⟨prog, fun _ => false, qL [zVi]⟩
def qT6 : qA := ⟨[], [(4, qF4)], false⟩
theorem qY6 : qJ yV4 := zN zM ⟨yJ9, trivial⟩
theorem yT3 : qE prog 1000 0 37 (zZ (qD f68) 0) qF4 := lp (A := qT6) qF4 (fun d => (d.1.1.1, d.1.2.1.1)) qX5 zMk zK7 qY6 zL
def zJc : Nat × zJ := zR 68 [.c (.dat false (.int .i64))] (.tup [(false, qX), (false, [.bool])]) (fun k d => zHz k d.1) (fun x => (x.1, x.2, ()))
theorem qDr : zK prog zJc := fA (rs := .tup [(false, qX), (false, [.bool])]) f68 qT6 (fun d => (d.1, d.2.1)) qY6 (loops1 yT3)
def qXs : zF := ⟨[(1, .c (.dat false (.int .i64))), (2, .c (.dat false (.int .i64))), (8, .c (.lit (.osl 1001000 none))), (25, .c (.dat false y0q)), (26, .c (.int .i64)), (27, .c (.int .i64))], [.arr true (.int .i64)], [(8, none, (.int .i64), false)]⟩
def yK8 : zF := ⟨[(8, .c (.lit (.osl 1001000 none)))], [.arr true (.int .i64)], []⟩
def qTi : zF := ⟨[(6, .c (.int .i64)), (7, .c (.bool))], [], []⟩
def yN4 (f : qJg) (d : qXs.den) : Option ((List Int) ⊕ wF) := f d.1.1.1 d.1.2.1.1 d.1.2.2.2.1.1 d.1.2.2.2.2.1.1 d.1.2.2.2.2.2.1.1 d.2.1
def qL2 : qG := ⟨qXs, [(.exit 0, yK8), (.ret, qTi)], ((List Int) ⊕ wF), fun k d => yN4 (zK6 k k) d, fun b x _ K => match x with | .inl x => K (.exit 0) (zT b yK8 (((), ()), (x, ()))) | .inr x => K .ret (zT b qTi (((x.1, ()), (x.2, ()), ()), ()))⟩
def yQp : qC := ⟨prog, fun _ => false, qL [qE1, zJc]⟩
def qX2 : qA := ⟨[], [(5, qL2)], true⟩
theorem qU1 : qJ yQp := zN zM ⟨vJ4, qDr, trivial⟩
theorem yTy : qE prog 1000 0 57 (zZ (qD f125) 0) qL2 := lp (A := qX2) qL2 (fun d => match d with | .inl d => .inl d.2.1 | .inr d => .inr (d.1.1.1, d.1.2.1.1)) yN4 zK6 zJi qU1 zL
def zFf : Nat × zJ := zR 125 [.c (.dat false y0q), .c (.dat false (.int .i64)), .c (.dat false (.int .i64))] (.tup [(false, qX), (false, [.bool])]) (fun k d => zEh k d.1 d.2.1 d.2.2.1) (fun x => (x.1, x.2, ()))
theorem zOq : zK prog zFf := fA (rs := .tup [(false, qX), (false, [.bool])]) f125 qX2 (fun d => (d.1, d.2.1)) qU1 (loops1 yTy)
def qRq : Nat × zJ := wU 89 [.ptr true zHa, .c (.p (.int .i64)), .c (.p (.int .i64))] (.c (.int .i64)) [vT] (fun k d => zUb k (zAq d) d.2.2.2.2.2.2.2.2.2.2.2.2.2.2.2.2.2.2.1 d.2.2.2.2.2.2.2.2.2.2.2.2.2.2.2.2.2.2.2.1) (fun x => (x.1, (zAb x.2 ())))
theorem yQw : zK prog qRq := fX (rs := .c (.int .i64)) (os := [vT]) f89 ⟨[], [], true⟩ 1 (fun d => (d.1, (zBu d))) (zN (l := [zI6, jV, qMp, zHk, zFf, zCd]) zM ⟨zTd, zA3, yJr, zVx, zOq, zEs, trivial⟩) zL
def qOm : Nat × zJ := zR 201 [.c (.int .i64), .c (.int .i64)] (.tup [(false, qX), (false, [.bool])]) (fun k d => zQf k d.1 d.2.1) (fun x => (x.1, x.2, ()))
theorem yMh : zK prog qOm := fA (rs := .tup [(false, qX), (false, [.bool])]) f201 ⟨[], [], false⟩ (fun d => (d.1, d.2.1)) (zN (l := []) zM trivial) zL
def qHl : Nat × zJ := zR 116 [.agg zCa] (.c (.bool)) (fun k d => qAg k d.1 d.2.1 d.2.2.1) (fun x => (x, ()))
theorem qYs : zK prog qHl := fA (rs := .c (.bool)) f116 ⟨[], [], false⟩ (fun d => d.1) (zN (l := []) zM trivial) zL
def qCz : Nat × zJ := zR 214 [.agg zCa, .c (.int .i64)] (.tup [(true, zKk), (false, qX)]) (fun k d => zSc k (d.1, d.2.1, d.2.2.1) d.2.2.2.1) (fun x => (x.1.1, x.1.2.1, x.1.2.2, x.2, ()))
theorem yMe : zK prog qCz := fA (rs := .tup [(true, zKk), (false, qX)]) f214 ⟨[], [], true⟩ (fun d => ((d.1, d.2.1, d.2.2.1), d.2.2.2.1)) (zN (l := [qOm, qHl]) zM ⟨yMh, qYs, trivial⟩) zL
def qNi : Nat × zJ := zR 169 [.agg zCa, .c (.int .i64)] (.tup [(true, zKk), (false, qX)]) (fun k d => zLn k (d.1, d.2.1, d.2.2.1) d.2.2.2.1) (fun x => (x.1.1, x.1.2.1, x.1.2.2, x.2, ()))
theorem qP6 : zK prog qNi := fA (rs := .tup [(true, zKk), (false, qX)]) f169 ⟨[], [], true⟩ (fun d => ((d.1, d.2.1, d.2.2.1), d.2.2.2.1)) (zN (l := [qCz]) zM ⟨yMe, trivial⟩) zL
def zP1 : Nat × zJ := zR 215 [.agg zCa, .c (.int .i64)] (.c (.int .i64)) (fun k d => (yZ (zFs k) d)) (fun x => (x, ()))
theorem qC2 : zK prog zP1 := fA (rs := .c (.int .i64)) f215 ⟨[], [], false⟩ (fun d => d.1) (zN (l := []) zM trivial) zL
def qDv : Nat × zJ := zR 170 [.agg zCa, .c (.int .i64), .c (.int .i64)] (.tup [(true, zKk), (false, qX)]) (fun k d => zK0 k (d.1, d.2.1, d.2.2.1) d.2.2.2.1 d.2.2.2.2.1) (fun x => (x.1.1, x.1.2.1, x.1.2.2, x.2, ()))
theorem yFg : zK prog qDv := fA (rs := .tup [(true, zKk), (false, qX)]) f170 ⟨[], [], true⟩ (fun d => ((d.1, d.2.1, d.2.2.1), d.2.2.2.1)) (zN (l := [qCz, zP1]) zM ⟨yMe, qC2, trivial⟩) zL
def qFx : Nat × zJ := zR 171 [.agg zCa, .c (.int .i64)] (.c (.int .i64)) (fun k d => zJw k (d.1, d.2.1, d.2.2.1) d.2.2.2.1) (fun x => (x, ()))
theorem qXc : zK prog qFx := fA (rs := .c (.int .i64)) f171 ⟨[], [], true⟩ (fun d => d.1) (zN (l := []) zM trivial) zL
def qUt : Nat × zJ := wU 90 [.ptr true zHa, .c (.p (.int .i64)), .c (.p (.int .i64)), .c (.p (.int .i64))] (.c (.int .i64)) [vT] (fun k d => qKz k (zAq d) d.2.2.2.2.2.2.2.2.2.2.2.2.2.2.2.2.2.2.1 d.2.2.2.2.2.2.2.2.2.2.2.2.2.2.2.2.2.2.2.1 d.2.2.2.2.2.2.2.2.2.2.2.2.2.2.2.2.2.2.2.2.1) (fun x => (x.1, (zAb x.2 ())))
theorem yTq : zK prog qUt := fX (rs := .c (.int .i64)) (os := [vT]) f90 ⟨[], [], true⟩ 1 (fun d => (d.1, (zBu d))) (zN (l := [jV, qNi, qDv, qFx, zCd]) zM ⟨zA3, qP6, yFg, qXc, zEs, trivial⟩) zL
def qU8 : zF := ⟨[(0, .c (.lit (.ptr 1001000 0))), (7, .c (.lit (.osl 1001002 none))), (8, .c (.lit (.ptr 1001003 0))), (40, .c (.dat true (.sl (.int .i64)))), (41, .c (.int .i64)), (42, .c (.int .i64))], [.box true qFq, .arr true yR, .arr true (.int .i64), .box true qSq, .arr true yI, .mat, .arr true (.int .i64), .mat], []⟩
def yDu : zF := ⟨[(0, .c (.lit (.ptr 1001000 0))), (7, .c (.lit (.osl 1001002 none))), (8, .c (.lit (.ptr 1001003 0)))], [.box true qFq, .arr true yR, .arr true (.int .i64), .box true qSq, .arr true yI, .mat, .arr true (.int .i64), .mat], []⟩
def yDe : zF := ⟨[(0, .c (.lit (.ptr 1001000 0))), (6, .c (.int .i64))], [.box true qFq, .arr true yR], []⟩
def yHb (f : qM8) (d : qU8.den) : Option zXb := f d.1.2.2.2.1.1 d.1.2.2.2.2.1.1 d.1.2.2.2.2.2.1.1 (zBa d.2.1) d.2.2.1 d.2.2.2.1 d.2.2.2.2.2.1 d.2.2.2.2.2.2.1 d.2.2.2.2.2.2.2.1 d.2.2.2.2.2.2.2.2.1
def qE4 : qG := ⟨qU8, [(.exit 0, yDu), (.ret, yDe)], zXb, fun k d => yHb (qK9 k k) d, fun b x _ K => match x with | .inl x => K (.exit 0) (zT b yDu (((), (), (), ()), ((yT x.1 ()), x.2.1, x.2.2.1, (), x.2.2.2.1, x.2.2.2.2.1, x.2.2.2.2.2.1, x.2.2.2.2.2.2, ()))) | .inr x => K .ret (zT b yDe (((), (x.1, ()), ()), ((yT x.2.1 ()), x.2.2, ())))⟩
def yW7 : qC := ⟨prog, fun _ => false, qL [zI6, jV, zHk, zCd, zFf]⟩
def qWg : qA := ⟨[], [(6, qE4)], true⟩
theorem qRr : qJ yW7 := zN zM ⟨zTd, zA3, zVx, zEs, zOq, trivial⟩
theorem yS3 : qE prog 1000 1 81 (zZ (qD f91) 0) qE4 := lp (A := qWg) qE4 (fun d => match d with | .inl d => .inl ((zBa d.2.1), d.2.2.1, d.2.2.2.1, d.2.2.2.2.2.1, d.2.2.2.2.2.2.1, d.2.2.2.2.2.2.2.1, d.2.2.2.2.2.2.2.2.1) | .inr d => .inr (d.1.2.1.1, (zBa d.2.1), d.2.2.1)) yHb qK9 yF3 qRr zL
def yAr : Nat × zJ := wU 91 [.ptr true zHa, .c (.p (.int .i64)), .c (.p (.int .i64))] (.c (.int .i64)) [vT] (fun k d => qQx k (zAq d) d.2.2.2.2.2.2.2.2.2.2.2.2.2.2.2.2.2.2.1 d.2.2.2.2.2.2.2.2.2.2.2.2.2.2.2.2.2.2.2.1) (fun x => (x.1, (zAb x.2 ())))
theorem yTf : zK prog yAr := fX (rs := .c (.int .i64)) (os := [vT]) f91 qWg 1 (fun d => (d.1, (zBu d))) qRr (loops1 yS3)
def yOb : Nat × zJ := wU 48 [.ptr true zHa, .agg vP] (.c (.int .i64)) [vT] (fun k d => zZ3 k (zAq d) (zMq d)) (fun x => (x.1, (zAb x.2 ())))
theorem vDu : zK prog yOb := fX (rs := .c (.int .i64)) (os := [vT]) f48 ⟨[], [], true⟩ 1 (fun d => (d.1, (zBu d))) (zN (l := [yFn, qZq, yI0, qRq, qUt, yAr]) zM ⟨vB1, ySf, ySy, yQw, yTq, yTf, trivial⟩) zL
def zS1 : Nat × zJ := zR 69 [.agg zBx, .c (.int .i64)] (.c (.bool)) (fun k d => (zB4 (zNy k) d)) (fun x => (x, ()))
theorem yB9 : zK prog zS1 := fA (rs := .c (.bool)) f69 ⟨[], [], false⟩ (fun d => d.1) (zN (l := []) zM trivial) zL
def zJb : Nat × zJ := zR 94 [.c (.int .i64), .c (.int .i64), .c (.dat false (.int .i64))] (.agg [.int .i64, .int .i64, .int .i64, .int .i64, .int .i64, .int .i64, .int .i64, .int .i64]) (fun k d => zC8 k d.1 d.2.1 d.2.2.1) (fun x => (qAi x ()))
theorem qD3 : zK prog zJb := fA (rs := .agg [.int .i64, .int .i64, .int .i64, .int .i64, .int .i64, .int .i64, .int .i64, .int .i64]) f94 ⟨[], [], false⟩ (fun d => (zPq d)) (zN (l := []) zM trivial) zL
def yN0 : zF := ⟨[(1, .c (.lit (.ptr 1001000 0))), (2, .c (.lit (.ptr 1001001 0))), (4, .c (.lit (.osl 1001002 none))), (10, .c (.dat true zI)), (11, .c (.int .i64)), (12, .c (.int .i64))], [.box true zGf, .box true zEj, .arr true yR], [(4, none, yR, false)]⟩
def yL3 : zF := ⟨[(1, .c (.lit (.ptr 1001000 0))), (2, .c (.lit (.ptr 1001001 0))), (4, .c (.lit (.osl 1001002 none)))], [.box true zGf, .box true zEj, .arr true yR], []⟩
def qXe (f : qBt) (d : yN0.den) : Option zTq := (zC3 (f d.1.2.2.2.1.1 d.1.2.2.2.2.1.1 d.1.2.2.2.2.2.1.1) d.2.1) d.2.2.1.1 d.2.2.1.2.1 d.2.2.1.2.2.1 d.2.2.2.1
def zX4 : qG := ⟨yN0, [(.exit 0, yL3)], zTq, fun k d => qXe (zLk k k) d, fun b x _ K => K (.exit 0) (zT b yL3 (((), (), (), ()), ((zFu x ()), (x.2.2.2.2.2.2.2.2.2.2.2.1, x.2.2.2.2.2.2.2.2.2.2.2.2.1, x.2.2.2.2.2.2.2.2.2.2.2.2.2.1, ()), x.2.2.2.2.2.2.2.2.2.2.2.2.2.2, ())))⟩
def qUo : zF := ⟨[(1, .c (.lit (.ptr 1001000 0))), (2, .c (.lit (.ptr 1001001 0))), (4, .c (.lit (.osl 1001002 none))), (28, .c (.dat true yI)), (29, .c (.int .i64)), (30, .c (.int .i64))], [.box true zGf, .box true zEj, .arr true yR], []⟩
def qRc : zF := ⟨[(1, .c (.lit (.ptr 1001000 0))), (2, .c (.lit (.ptr 1001001 0))), (4, .c (.lit (.osl 1001002 none)))], [.box true zGf, .box true zEj, .arr true yR], []⟩
def qRa (f : qMr) (d : qUo.den) : Option zTt := (zC3 (f d.1.2.2.2.1.1 d.1.2.2.2.2.1.1 d.1.2.2.2.2.2.1.1) d.2.1) d.2.2.1.1 d.2.2.1.2.1 d.2.2.1.2.2.1 d.2.2.2.1
def zYh : qG := ⟨qUo, [(.exit 2, qRc)], zTt, fun k d => qRa (zK8 k k) d, fun b x _ K => K (.exit 2) (zT b qRc (((), (), (), ()), ((zFu x ()), (x.2.2.2.2.2.2.2.2.2.2.2.1, x.2.2.2.2.2.2.2.2.2.2.2.2.1, x.2.2.2.2.2.2.2.2.2.2.2.2.2.1, ()), x.2.2.2.2.2.2.2.2.2.2.2.2.2.2, ())))⟩
def vDf : qC := ⟨prog, fun _ => false, qL [zJb]⟩
def qLb : qA := ⟨[], [(3, zX4), (8, zYh)], false⟩
theorem qJy : qJ vDf := zN zM ⟨qD3, trivial⟩
theorem yTr : qE prog 1000 0 48 (zZ (qD f92) 0) zX4 := lp (A := qLb) zX4 (fun d => (zFu d.2.1 (d.2.2.1.1, d.2.2.1.2.1, d.2.2.1.2.2.1, d.2.2.2.1))) qXe zLk zL0 qJy zL
theorem vAk : qE prog 1000 0 48 (zZ (qD f92) 1) zYh := lp (A := qLb) zYh (fun d => (zFu d.2.1 (d.2.2.1.1, d.2.2.1.2.1, d.2.2.1.2.2.1, d.2.2.2.1))) qRa zK8 zLm qJy zL
def qIu : Nat × zJ := zR 92 [.agg zRg] (.tup [(true, qRy), (false, [.own yR])]) (fun k d => (zC3 (qAf k) d)) (fun x => (zQv x ()))
theorem vFo : zK prog qIu := fA (rs := .tup [(true, qRy), (false, [.own yR])]) f92 qLb (fun d => (zQl d)) qJy (zGk (n := 2) (by kernel_rfl) fun i hi => match i, hi with | 0, _ => ⟨zX4, by kernel_rfl, yTr⟩ | 1, _ => ⟨zYh, by kernel_rfl, vAk⟩ | i + 2, hi => absurd hi (by omega))
def qPy : Nat × zJ := zR 93 [.agg vP, .c (.int .i64)] (.c (.bool)) (fun k d => (zCr (qO0 k) d)) (fun x => (x, ()))
theorem vJj : zK prog qPy := fA (rs := .c (.bool)) f93 ⟨[], [], false⟩ (fun d => d.1) (zN (l := []) zM trivial) zL
def qL7 : Nat × zJ := zR 95 [.agg zBx, .c (.int .i64)] (.c (.bool)) (fun k d => (zB4 (qA3 k) d)) (fun x => (x, ()))
theorem vH4 : zK prog qL7 := fA (rs := .c (.bool)) f95 ⟨[], [], false⟩ (fun d => d.1) (zN (l := []) zM trivial) zL
def yId : Nat × zJ := zR 252 [.agg vP, .c (.int .i64)] (.c (.bool)) (fun k d => (zCr (qHz k) d)) (fun x => (x, ()))
theorem vF8 : zK prog yId := fA (rs := .c (.bool)) f252 ⟨[], [], false⟩ (fun d => d.1) (zN (l := []) zM trivial) zL
def qNn : Nat × zJ := zR 251 [.agg vP, .ptr [.int .i64]] (.c (.bool)) (fun k d => (zCr (qJz k) d)) (fun x => (x, ()))
theorem vHe : zK prog qNn := fA (rs := .c (.bool)) f251 ⟨[], [], false⟩ (fun d => d.1) (zN (l := [yId]) zM ⟨vF8, trivial⟩) zL
def yJ6 : zF := ⟨[(1, .c (.lit (.fn 251 [1001000]))), (5, .c (.lit (.osl 1001001 none))), (8, .c (.dat false zI)), (9, .c (.int .i64)), (10, .c (.int .i64))], [.robox [.int .i64], .arr true zI], [(5, none, zI, false)]⟩
def qZh : zF := ⟨[(5, .c (.lit (.osl 1001000 none)))], [.arr true zI], []⟩
def qZb (f : qFp) (d : yJ6.den) : Option zY5 := f d.1.2.2.1.1 d.1.2.2.2.1.1 d.1.2.2.2.2.1.1 d.2.1.1 d.2.2.1
def qOk : qG := ⟨yJ6, [(.exit 0, qZh)], zY5, fun k d => qZb (zQs k k) d, fun b x _ K => K (.exit 0) (zT b qZh (((), ()), (x, ())))⟩
def yQ5 : qC := ⟨prog, fun _ => false, qL [qNn]⟩
def qW8 : qA := ⟨[], [(3, qOk)], false⟩
theorem qZ7 : qJ yQ5 := zN zM ⟨vHe, trivial⟩
theorem vF5 : qE prog 1000 0 23 (zZ (qD f153) 0) qOk := lp (A := qW8) qOk (fun d => d.2.1) qZb zQs zJs qZ7 zL
def qWe : Nat × zJ := zR 153 [.c (.dat false zI), .fn 251 [[.int .i64]]] (.c (.own zI)) (fun k d => qKa k d.1 d.2.1) (fun x => (x, ()))
theorem vEq : zK prog qWe := fA (rs := .c (.own zI)) f153 qW8 (fun d => d.1) qZ7 (loops1 vF5)
def zLl : Nat × zJ := zR 220 [.c (.dat false zI), .c (.int .i64)] (.c (.own zI)) (fun k d => zL7 k d.1 d.2.1) (fun x => (x, ()))
theorem qPn : zK prog zLl := fA (rs := .c (.own zI)) f220 ⟨[], [], false⟩ (fun d => d.1) (zN (l := [qWe]) zM ⟨vEq, trivial⟩) zL
def qFw : Nat × zJ := zR 238 [.agg vP, .ptr vP] (.c (.bool)) (fun k d => (zJ3 (qJd k) d)) (fun x => (x, ()))
theorem vEr : zK prog qFw := fA (rs := .c (.bool)) f238 ⟨[], [], false⟩ (fun d => d.1) (zN (l := []) zM trivial) zL
def yIh : zF := ⟨[(0, .c (.dat false zI)), (1, .c (.lit (.fn 238 [1001000]))), (7, .c (.int .i64)), (8, .c (.int .i64))], [.robox zCf], []⟩
def qRh : zF := ⟨[], [], []⟩
def qRv : zF := ⟨[(4, .c (.int .i64))], [], []⟩
def yCm (f : qLc) (d : yIh.den) : Option (Unit ⊕ Int) := (zIu (f d.1.1.1 d.1.2.2.1.1 d.1.2.2.2.1.1) d.2.1)
def qJ8 : qG := ⟨yIh, [(.exit 0, qRh), (.ret, qRv)], (Unit ⊕ Int), fun k d => yCm (zLg k k) d, fun b x _ K => match x with | .inl x => K (.exit 0) (zT b qRh ((), ())) | .inr x => K .ret (zT b qRv (((x, ()), ()), ()))⟩
def yQj : qC := ⟨prog, fun _ => false, qL [qFw]⟩
def yAh : qA := ⟨[], [(2, qJ8)], false⟩
theorem qT1 : qJ yQj := zN zM ⟨vEr, trivial⟩
theorem yS1 : qE prog 1000 0 19 (zZ (qD f98) 0) qJ8 := lp (A := yAh) qJ8 (fun d => match d with | .inl d => .inl () | .inr d => .inr d.1.1.1) yCm zLg zLv qT1 zL
def qSp : Nat × zJ := zR 98 [.c (.dat false zI), .fn 238 [vP]] (.c (.int .i64)) (fun k d => (zCr (qGa k) d)) (fun x => (x, ()))
theorem vCv : zK prog qSp := fA (rs := .c (.int .i64)) f98 yAh (fun d => d.1) qT1 (loops1 yS1)
def qXm : Nat × zJ := zR 132 [.c (.dat false zI), .fn 238 [vP]] (.c (.bool)) (fun k d => (zCr (zV5 k) d)) (fun x => (x, ()))
theorem vG1 : zK prog qXm := fA (rs := .c (.bool)) f132 ⟨[], [], false⟩ (fun d => d.1) (zN (l := [qSp]) zM ⟨vCv, trivial⟩) zL
def qMf : Nat × zJ := wU 237 [.agg vP, .ptr true [.map], .ptr false [.p (.dat false zI)]] (.c (.bool)) [[.map]] (fun k d => (qHe (qL9 k) d)) (fun x => (x.1, x.2, ()))
theorem yVg : zK prog qMf := fX (rs := .c (.bool)) (os := [[.map]]) f237 ⟨[], [], false⟩ 3 (fun d => (d.1, d.2.1)) (zN (l := [qXm]) zM ⟨vG1, trivial⟩) zL
def qR0 : zF := ⟨[(1, .c (.lit (.fn 237 [1001000, 1001002]))), (5, .c (.lit (.osl 1001003 none))), (8, .c (.dat false zI)), (9, .c (.int .i64)), (10, .c (.int .i64))], [.box true [.lit (.map 1001001)], .imap, .robox [.dat false zI], .arr true zI], [(5, none, zI, false)]⟩
def qYg : zF := ⟨[(1, .c (.lit (.fn 237 [1001000, 1001002]))), (5, .c (.lit (.osl 1001003 none)))], [.box true [.lit (.map 1001001)], .imap, .robox [.dat false zI], .arr true zI], []⟩
def yMd (f : qK6) (d : qR0.den) : Option zUw := f d.1.2.2.1.1 d.1.2.2.2.1.1 d.1.2.2.2.2.1.1 d.2.2.1 d.2.2.2.1.1 d.2.2.2.2.1
def qIk : qG := ⟨qR0, [(.exit 0, qYg)], zUw, fun k d => yMd (zMo k k) d, fun b x _ K => K (.exit 0) (zT b qYg (((), (), ()), ((), x.1, (x.2.1, ()), x.2.2, ())))⟩
def vBo : qC := ⟨prog, fun _ => false, qL [qMf]⟩
def qXt : qA := ⟨[], [(3, qIk)], false⟩
theorem yO8 : qJ vBo := zN zM ⟨yVg, trivial⟩
theorem vE3 : qE prog 1000 2 23 (zZ (qD f153) 0) qIk := lp (A := qXt) qIk (fun d => (d.2.2.1, d.2.2.2.1.1, d.2.2.2.2.1)) yMd zMo zKq yO8 zL
def yO6 : Nat × zJ := wU 153 [.c (.p (.dat false zI)), .fn 237 [(true, [.map]), (false, [.p (.dat false zI)])]] (.c (.own zI)) [[.map]] (fun k d => qJk k d.1 d.2.1 d.2.2.1) (fun x => (x.1, x.2, ()))
theorem vHn : zK prog yO6 := fX (rs := .c (.own zI)) (os := [[.map]]) f153 qXt 2 (fun d => (d.1, d.2.1)) yO8 (loops1 vE3)
def zPn : Nat × zJ := zR 198 [.c (.dat false zI), .c (.int .i64)] (.c (.own zI)) (fun k d => zPf k d.1 d.2.1) (fun x => (x, ()))
theorem yE5 : zK prog zPn := fA (rs := .c (.own zI)) f198 ⟨[], [], false⟩ (fun d => d.1) (zN (l := [zLl, yO6]) zM ⟨qPn, vHn, trivial⟩) zL
def zWj : Nat × zJ := zR 128 [.agg wC, .agg vP] (.c (.bool)) (fun k d => (zC3 (zOl k) d)) (fun x => (x, ()))
theorem qMx : zK prog zWj := fA (rs := .c (.bool)) f128 ⟨[], [], false⟩ (fun d => d.1) (zN (l := []) zM trivial) zL
def qDz : Nat × zJ := zR 239 [.agg vP, .ptr wC] (.c (.bool)) (fun k d => (zC3 (qBg k) d)) (fun x => (x, ()))
theorem ySj : zK prog qDz := fA (rs := .c (.bool)) f239 ⟨[], [], false⟩ (fun d => d.1) (zN (l := [zWj]) zM ⟨qMx, trivial⟩) zL
def yBz : zF := ⟨[(0, .c (.dat false zI)), (1, .c (.lit (.fn 239 [1001000]))), (7, .c (.int .i64)), (8, .c (.int .i64))], [.robox jF], []⟩
def qZg : zF := ⟨[], [], []⟩
def yI8 : zF := ⟨[(4, .c (.int .i64))], [], []⟩
def qUf (f : qJj) (d : yBz.den) : Option (Unit ⊕ Int) := (yZ (f d.1.1.1 d.1.2.2.1.1 d.1.2.2.2.1.1) d.2.1)
def qBo : qG := ⟨yBz, [(.exit 0, qZg), (.ret, yI8)], (Unit ⊕ Int), fun k d => qUf (zSt k k) d, fun b x _ K => match x with | .inl x => K (.exit 0) (zT b qZg ((), ())) | .inr x => K .ret (zT b yI8 (((x, ()), ()), ()))⟩
def vJv : qC := ⟨prog, fun _ => false, qL [qDz]⟩
def qTj : qA := ⟨[], [(2, qBo)], false⟩
theorem yK3 : qJ vJv := zN zM ⟨ySj, trivial⟩
theorem vJ1 : qE prog 1000 0 19 (zZ (qD f98) 0) qBo := lp (A := qTj) qBo (fun d => match d with | .inl d => .inl () | .inr d => .inr d.1.1.1) qUf zSt zJ2 yK3 zL
def qUy : Nat × zJ := zR 98 [.c (.dat false zI), .fn 239 [wC]] (.c (.int .i64)) (fun k d => (zAn (qN1 k) d)) (fun x => (x, ()))
theorem ySl : zK prog qUy := fA (rs := .c (.int .i64)) f98 qTj (fun d => d.1) yK3 (loops1 vJ1)
def yBv : Nat × zJ := zR 132 [.c (.dat false zI), .fn 239 [wC]] (.c (.bool)) (fun k d => (zAn (zZt k) d)) (fun x => (x, ()))
theorem vDz : zK prog yBv := fA (rs := .c (.bool)) f132 ⟨[], [], false⟩ (fun d => d.1) (zN (l := [qUy]) zM ⟨ySl, trivial⟩) zL
def yF8 : zF := ⟨[(4, .c (.lit (.ptr 1001000 0))), (5, .c (.lit (.ptr 1001001 0))), (15, .c (.dat false zI)), (16, .c (.int .i64)), (17, .c (.int .i64))], [.box true [.lit .nsl, .lit .nsl, .lit .nsl], .box true qPr, .arr true (.int .i64), .arr true (.int .i64), .mat], []⟩
def qUn : zF := ⟨[(4, .c (.lit (.ptr 1001000 0))), (5, .c (.lit (.ptr 1001001 0)))], [.box true [.lit .nsl, .lit .nsl, .lit .nsl], .box true qPr, .arr true (.int .i64), .arr true (.int .i64), .mat], []⟩
def yBn (f : qE6) (d : yF8.den) : Option zUy := f d.1.2.2.1.1 d.1.2.2.2.1.1 d.1.2.2.2.2.1.1 d.2.2.2.1 d.2.2.2.2.1 d.2.2.2.2.2.1
def qHa : qG := ⟨yF8, [(.exit 0, qUn)], zUy, fun k d => yBn (zMg k k) d, fun b x _ K => K (.exit 0) (zT b qUn (((), (), ()), ((), (), x.1, x.2.1, x.2.2, ())))⟩
def vGk : qC := ⟨prog, fun _ => false, qL [R2q, R3q]⟩
def qY1 : qA := ⟨[], [(3, qHa)], false⟩
theorem qWv : qJ vGk := zN zM ⟨F2q, F3q, trivial⟩
theorem yXq : qE prog 1000 0 84 (zZ (qD f259) 0) qHa := lp (A := qY1) qHa (fun d => (d.2.2.2.1, d.2.2.2.2.1, d.2.2.2.2.2.1)) yBn zMg zMe qWv zL
def qKk : Nat × zJ := zR 259 [.c (.int .i64), .c (.dat false zI)] (.agg [.own (.int .i64), .own (.int .i64), .mat]) (fun k d => zWw k d.1 d.2.1) (fun x => (x.1, x.2.1, x.2.2, ()))
theorem vAv : zK prog qKk := fA (rs := .agg [.own (.int .i64), .own (.int .i64), .mat]) f259 qY1 (fun d => (d.1, d.2.1, d.2.2.1)) qWv (loops1 yXq)
def qEj : Nat × zJ := zR 260 [.agg vP, .ptr [.int .i64]] (.c (.bool)) (fun k d => (zCr (qKn k) d)) (fun x => (x, ()))
theorem yXo : zK prog qEj := fA (rs := .c (.bool)) f260 ⟨[], [], false⟩ (fun d => d.1) (zN (l := []) zM trivial) zL
def yF9 : zF := ⟨[(0, .c (.dat false zI)), (1, .c (.lit (.fn 260 [1001000]))), (7, .c (.int .i64)), (8, .c (.int .i64))], [.robox [.int .i64]], []⟩
def qQa : zF := ⟨[], [], []⟩
def qW3 : zF := ⟨[(4, .c (.int .i64))], [], []⟩
def yBl (f : qPz) (d : yF9.den) : Option (Unit ⊕ Int) := f d.1.1.1 d.1.2.2.1.1 d.1.2.2.2.1.1 d.2.1.1
def qJ6 : qG := ⟨yF9, [(.exit 0, qQa), (.ret, qW3)], (Unit ⊕ Int), fun k d => yBl (zRi k k) d, fun b x _ K => match x with | .inl x => K (.exit 0) (zT b qQa ((), ())) | .inr x => K .ret (zT b qW3 (((x, ()), ()), ()))⟩
def ySd : qC := ⟨prog, fun _ => false, qL [qEj]⟩
def yFv : qA := ⟨[], [(2, qJ6)], false⟩
theorem yHv : qJ ySd := zN zM ⟨yXo, trivial⟩
theorem vCp : qE prog 1000 0 19 (zZ (qD f98) 0) qJ6 := lp (A := yFv) qJ6 (fun d => match d with | .inl d => .inl () | .inr d => .inr d.1.1.1) yBl zRi zNb yHv zL
def yMf : Nat × zJ := zR 98 [.c (.dat false zI), .fn 260 [[.int .i64]]] (.c (.int .i64)) (fun k d => qM0 k d.1 d.2.1) (fun x => (x, ()))
theorem yS9 : zK prog yMf := fA (rs := .c (.int .i64)) f98 yFv (fun d => d.1) yHv (loops1 vCp)
def qB1 : Nat × zJ := zR 132 [.c (.dat false zI), .fn 260 [[.int .i64]]] (.c (.bool)) (fun k d => zXg k d.1 d.2.1) (fun x => (x, ()))
theorem vAi : zK prog qB1 := fA (rs := .c (.bool)) f132 ⟨[], [], false⟩ (fun d => d.1) (zN (l := [yMf]) zM ⟨yS9, trivial⟩) zL
def qR6 : zF := ⟨[(5, .c (.int .i64)), (12, .c (.dat false (.int .i64))), (13, .c (.int .i64)), (14, .c (.int .i64))], [], []⟩
def qS9 : zF := ⟨[(5, .c (.int .i64))], [], []⟩
def qQ3 (f : Int → List Int → Int → Int → Option Int) (d : qR6.den) : Option Int := f d.1.1.1 d.1.2.1.1 d.1.2.2.1.1 d.1.2.2.2.1.1
def qOw : qG := ⟨qR6, [(.exit 0, qS9)], Int, fun k d => qQ3 (zJx k k) d, fun b x _ K => K (.exit 0) (zT b qS9 (((x, ()), ()), ()))⟩
def vB4 : qC := ⟨prog, fun _ => false, qL []⟩
def qTq : qA := ⟨[], [(3, qOw)], false⟩
theorem yA6 : qJ vB4 := zN zM trivial
theorem vG5 : qE prog 1000 0 23 (zZ (qD f265) 0) qOw := lp (A := qTq) qOw (fun d => d.1.1.1) qQ3 zJx zOa yA6 zL
def qBa : Nat × zJ := zR 265 [.agg wC, .c (.int .i64)] (.c (.int .i64)) (fun k d => (zAn (zUt k) d)) (fun x => (x, ()))
theorem vI3 : zK prog qBa := fA (rs := .c (.int .i64)) f265 qTq (fun d => d.1) yA6 (loops1 vG5)
def zWd : Nat × zJ := zR 266 [.c (.int .i64), .c (.int .i64)] (.c (.bool)) (fun k d => zKz k d.1 d.2.1) (fun x => (x, ()))
theorem yMx : zK prog zWd := fA (rs := .c (.bool)) f266 ⟨[], [], false⟩ (fun d => d.1) (zN (l := []) zM trivial) zL
def qG1 : Nat × zJ := zR 267 [.agg vP, .ptr [.int .i64], .ptr zCa, .ptr zYb, .ptr [.int .i64], .ptr wC] (.c (.bool)) (fun k d => (yVc (qN4 k) d)) (fun x => (x, ()))
theorem yS0 : zK prog qG1 := fA (rs := .c (.bool)) f267 ⟨[], [], false⟩ (fun d => d.1) (zN (l := [zP1, zWd]) zM ⟨qC2, yMx, trivial⟩) zL
def qVt : zF := ⟨[(0, .c (.dat false zI)), (1, .c (.lit (.fn 267 [1001000, 1001001, 1001002, 1001003, 1001004]))), (7, .c (.int .i64)), (8, .c (.int .i64))], [.robox [.int .i64], .robox [.int .i64, .int .i64, .int .i64], .robox qKg, .robox [.int .i64], .robox jF], []⟩
def qQk : zF := ⟨[], [], []⟩
def yCc : zF := ⟨[(4, .c (.int .i64))], [], []⟩
def yK5 (f : qJp) (d : qVt.den) : Option (Unit ⊕ Int) := (yZ (f d.1.1.1 d.1.2.2.1.1 d.1.2.2.2.1.1 d.2.1.1 d.2.2.1.1 d.2.2.1.2.1 d.2.2.1.2.2.1 d.2.2.2.1.1 d.2.2.2.1.2.1 d.2.2.2.1.2.2.1 d.2.2.2.2.1.1) d.2.2.2.2.2.1)
def qK7 : qG := ⟨qVt, [(.exit 0, qQk), (.ret, yCc)], (Unit ⊕ Int), fun k d => yK5 (zQi k k) d, fun b x _ K => match x with | .inl x => K (.exit 0) (zT b qQk ((), ())) | .inr x => K .ret (zT b yCc (((x, ()), ()), ()))⟩
def yXp : qC := ⟨prog, fun _ => false, qL [qG1]⟩
def yMy : qA := ⟨[], [(2, qK7)], false⟩
theorem qS2 : qJ yXp := zN zM ⟨yS0, trivial⟩
theorem vEf : qE prog 1000 0 19 (zZ (qD f98) 0) qK7 := lp (A := yMy) qK7 (fun d => match d with | .inl d => .inl () | .inr d => .inr d.1.1.1) yK5 zQi zL5 qS2 zL
def yBf : Nat × zJ := zR 98 [.c (.dat false zI), .fn 267 [[.int .i64], zCa, zYb, [.int .i64], wC]] (.c (.int .i64)) (fun k d => (qOg (qEk k) d)) (fun x => (x, ()))
theorem vAm : zK prog yBf := fA (rs := .c (.int .i64)) f98 yMy (fun d => d.1) qS2 (loops1 vEf)
def qJb : Nat × zJ := zR 132 [.c (.dat false zI), .fn 267 [[.int .i64], zCa, zYb, [.int .i64], wC]] (.c (.bool)) (fun k d => (qOg (qAx k) d)) (fun x => (x, ()))
theorem vEt : zK prog qJb := fA (rs := .c (.bool)) f132 ⟨[], [], false⟩ (fun d => d.1) (zN (l := [yBf]) zM ⟨vAm, trivial⟩) zL
def yGw : zF := ⟨[(3, .c (.dat false zI)), (4, .c (.lit (.ptr 1001000 0))), (5, .c (.lit (.ptr 1001001 0))), (6, .c (.lit (.ptr 1001002 0))), (9, .c (.lit (.ptr 1001003 0))), (10, .c (.lit (.ptr 1001004 0))), (11, .c (.int .i64)), (39, .c (.dat false (.int .i64))), (40, .c (.int .i64)), (41, .c (.int .i64))], [.box true qKg, .box true jF, .box true [.int .i64], .box true [.int .i64, .int .i64, .int .i64], .box true [.int .i64]], []⟩
def yKm : zF := ⟨[(3, .c (.dat false zI)), (4, .c (.lit (.ptr 1001000 0))), (5, .c (.lit (.ptr 1001001 0))), (6, .c (.lit (.ptr 1001002 0))), (9, .c (.lit (.ptr 1001003 0))), (10, .c (.lit (.ptr 1001004 0))), (11, .c (.int .i64))], [.box true qKg, .box true jF, .box true [.int .i64], .box true [.int .i64, .int .i64, .int .i64], .box true [.int .i64]], []⟩
def yAa (f : qJs) (d : yGw.den) : Option zUx := (yZ (f d.1.1.1 d.1.2.2.2.2.2.2.1.1 d.1.2.2.2.2.2.2.2.1.1 d.1.2.2.2.2.2.2.2.2.1.1 d.1.2.2.2.2.2.2.2.2.2.1.1 d.2.1.1 d.2.1.2.1 d.2.1.2.2.1) d.2.2.1) d.2.2.2.1.1 d.2.2.2.2.1.1 d.2.2.2.2.1.2.1 d.2.2.2.2.1.2.2.1 d.2.2.2.2.2.1.1
def qIn : qG := ⟨yGw, [(.exit 0, yKm)], zUx, fun k d => yAa (zIm k k) d, fun b x _ K => K (.exit 0) (zT b yKm (((x.1, ()), (), (), (), (), (), (x.2.1, ()), ()), ((x.2.2.1, x.2.2.2.1, x.2.2.2.2.1, ()), (ySm x ()), (x.2.2.2.2.2.2.2.2.2.1, ()), (x.2.2.2.2.2.2.2.2.2.2.1, x.2.2.2.2.2.2.2.2.2.2.2.1, x.2.2.2.2.2.2.2.2.2.2.2.2.1, ()), (x.2.2.2.2.2.2.2.2.2.2.2.2.2, ()), ())))⟩
def vDr : qC := ⟨prog, fun _ => false, qL [qBa, zWd, qJb]⟩
def qY0 : qA := ⟨[], [(7, qIn)], false⟩
theorem qZk : qJ vDr := zN zM ⟨vI3, yMx, vEt, trivial⟩
theorem yUv : qE prog 1000 0 59 (zZ (qD f261) 0) qIn := lp (A := qY0) qIn (fun d => (d.1.1.1, d.1.2.2.2.2.2.2.1.1, d.2.1.1, d.2.1.2.1, d.2.1.2.2.1, (wD d.2.2.1 (d.2.2.2.1.1, d.2.2.2.2.1.1, d.2.2.2.2.1.2.1, d.2.2.2.2.1.2.2.1, d.2.2.2.2.2.1.1)))) yAa zIm zKd qZk zL
def qKc : Nat × zJ := zR 261 [.agg zYb, .agg wC, .c (.int .i64), .c (.dat false zI)] (.c (.bool)) (fun k d => (qHe (zT5 k) d)) (fun x => (x, ()))
theorem vI6 : zK prog qKc := fA (rs := .c (.bool)) f261 qY0 (fun d => d.1) qZk (loops1 yUv)
def yC2 : zF := ⟨[(1, .c (.dat false zI)), (2, .c (.lit (.ptr 1001000 0))), (5, .c (.lit (.ptr 1001001 0))), (6, .c (.lit (.osl 1001005 none))), (16, .c (.int .i64)), (17, .c (.int .i64))], [.box true jF, .box true qPr, .arr true (.int .i64), .arr true (.int .i64), .mat, .arr true (.int .i64)], [(6, none, (.int .i64), false)]⟩
def qQn : zF := ⟨[(6, .c (.lit (.osl 1001000 none)))], [.arr true (.int .i64)], []⟩
def qRg (f : qO8) (d : yC2.den) : Option (List Int) := (yZ (f d.1.1.1 d.1.2.2.2.2.1.1 d.1.2.2.2.2.2.1.1) d.2.1) d.2.2.2.1 d.2.2.2.2.1 d.2.2.2.2.2.1 d.2.2.2.2.2.2.1
def qI0 : qG := ⟨yC2, [(.exit 0, qQn)], (List Int), fun k d => qRg (zN4 k k) d, fun b x _ K => K (.exit 0) (zT b qQn (((), ()), (x, ())))⟩
def yX8 : qC := ⟨prog, fun _ => false, qL [qKk, qB1, qKc]⟩
def qRb : qA := ⟨[], [(4, qI0)], false⟩
theorem qUx : qJ yX8 := zN zM ⟨vAv, vAi, vI6, trivial⟩
theorem vBj : qE prog 1000 0 37 (zZ (qD f240) 0) qI0 := lp (A := qRb) qI0 (fun d => d.2.1) qRg zN4 zJ9 qUx zL
def zWh : Nat × zJ := zR 240 [.agg wC, .c (.dat false zI)] (.c (.own (.int .i64))) (fun k d => (zAn (zIa k) d)) (fun x => (x, ()))
theorem yN2 : zK prog zWh := fA (rs := .c (.own (.int .i64))) f240 qRb (fun d => d.1) qUx (loops1 vBj)
def zSz : Nat × zJ := zR 199 [.agg wC, .c (.dat false zI)] (.c (.bool)) (fun k d => (zAn (zIj k) d)) (fun x => (x, ()))
theorem yJg : zK prog zSz := fA (rs := .c (.bool)) f199 ⟨[], [], false⟩ (fun d => d.1) (zN (l := [yBv, zWh]) zM ⟨vDz, yN2, trivial⟩) zL
def qBe : Nat × zJ := zR 241 [.agg vP, .ptr wC] (.c (.bool)) (fun k d => (zC3 (qL8 k) d)) (fun x => (x, ()))
theorem yQa : zK prog qBe := fA (rs := .c (.bool)) f241 ⟨[], [], false⟩ (fun d => d.1) (zN (l := [zWj]) zM ⟨qMx, trivial⟩) zL
def yF4 : zF := ⟨[(0, .c (.dat false zI)), (1, .c (.lit (.fn 241 [1001000]))), (7, .c (.int .i64)), (8, .c (.int .i64))], [.robox jF], []⟩
def qXl : zF := ⟨[], [], []⟩
def yDv : zF := ⟨[(4, .c (.int .i64))], [], []⟩
def yLm (f : qH7) (d : yF4.den) : Option (Unit ⊕ Int) := (yZ (f d.1.1.1 d.1.2.2.1.1 d.1.2.2.2.1.1) d.2.1)
def qGb : qG := ⟨yF4, [(.exit 0, qXl), (.ret, yDv)], (Unit ⊕ Int), fun k d => yLm (zQh k k) d, fun b x _ K => match x with | .inl x => K (.exit 0) (zT b qXl ((), ())) | .inr x => K .ret (zT b yDv (((x, ()), ()), ()))⟩
def yVr : qC := ⟨prog, fun _ => false, qL [qBe]⟩
def yJb : qA := ⟨[], [(2, qGb)], false⟩
theorem yFo : qJ yVr := zN zM ⟨yQa, trivial⟩
theorem yZ2 : qE prog 1000 0 19 (zZ (qD f98) 0) qGb := lp (A := yJb) qGb (fun d => match d with | .inl d => .inl () | .inr d => .inr d.1.1.1) yLm zQh zKf yFo zL
def yJ0 : Nat × zJ := zR 98 [.c (.dat false zI), .fn 241 [wC]] (.c (.int .i64)) (fun k d => (zAn (qEe k) d)) (fun x => (x, ()))
theorem vDw : zK prog yJ0 := fA (rs := .c (.int .i64)) f98 yJb (fun d => d.1) yFo (loops1 yZ2)
def qH5 : Nat × zJ := zR 132 [.c (.dat false zI), .fn 241 [wC]] (.c (.bool)) (fun k d => (zAn (zZc k) d)) (fun x => (x, ()))
theorem yQc : zK prog qH5 := fA (rs := .c (.bool)) f132 ⟨[], [], false⟩ (fun d => d.1) (zN (l := [yJ0]) zM ⟨vDw, trivial⟩) zL
def qLh : Nat × zJ := zR 115 [.agg zCa] (.c (.bool)) (fun k d => qI7 k d.1 d.2.1 d.2.2.1) (fun x => (x, ()))
theorem yZz : zK prog qLh := fA (rs := .c (.bool)) f115 ⟨[], [], false⟩ (fun d => d.1) (zN (l := [qHl]) zM ⟨qYs, trivial⟩) zL
def yAu : zF := ⟨[(0, .c (.dat false yI)), (1, .c (.lit (.fn 115 []))), (7, .c (.int .i64)), (8, .c (.int .i64))], [], []⟩
def yJq : zF := ⟨[], [], []⟩
def yD5 : zF := ⟨[(4, .c (.int .i64))], [], []⟩
def yIf (f : qMb) (d : yAu.den) : Option (Unit ⊕ Int) := f d.1.1.1 d.1.2.2.1.1 d.1.2.2.2.1.1
def qNz : qG := ⟨yAu, [(.exit 0, yJq), (.ret, yD5)], (Unit ⊕ Int), fun k d => yIf (zOs k k) d, fun b x _ K => match x with | .inl x => K (.exit 0) (zT b yJq ((), ())) | .inr x => K .ret (zT b yD5 (((x, ()), ()), ()))⟩
def yPg : qC := ⟨prog, fun _ => false, qL [qLh]⟩
def yFs : qA := ⟨[], [(2, qNz)], false⟩
theorem qUs : qJ yPg := zN zM ⟨yZz, trivial⟩
theorem yPx : qE prog 1000 0 19 (zZ (qD f188) 0) qNz := lp (A := yFs) qNz (fun d => match d with | .inl d => .inl () | .inr d => .inr d.1.1.1) yIf zOs zLu qUs zL
def yJi : Nat × zJ := zR 188 [.c (.dat false yI), .c (.fn 115)] (.c (.int .i64)) (fun k d => qCi k d.1) (fun x => (x, ()))
theorem vH8 : zK prog yJi := fA (rs := .c (.int .i64)) f188 yFs (fun d => d.1) qUs (loops1 yPx)
def yB4 : Nat × zJ := zR 117 [.c (.dat false yI), .c (.fn 115)] (.c (.bool)) (fun k d => zX3 k d.1) (fun x => (x, ()))
theorem yQh : zK prog yB4 := fA (rs := .c (.bool)) f117 ⟨[], [], false⟩ (fun d => d.1) (zN (l := [yJi]) zM ⟨vH8, trivial⟩) zL
def qTo : Nat × zJ := zR 119 [.c (.int .i64)] (.c (.bool)) (fun k d => qEr k d.1) (fun x => (x, ()))
theorem vFy : zK prog qTo := fA (rs := .c (.bool)) f119 ⟨[], [], false⟩ (fun d => d.1) (zN (l := []) zM trivial) zL
def qIi : Nat × zJ := zR 189 [.c (.int .i64), .ptr [.fn 119]] (.c (.bool)) (fun k d => qHt k d.1) (fun x => (x, ()))
theorem vCz : zK prog qIi := fA (rs := .c (.bool)) f189 ⟨[], [], false⟩ (fun d => d.1) (zN (l := [qTo]) zM ⟨vFy, trivial⟩) zL
def yEg : zF := ⟨[(0, .c (.dat false (.int .i64))), (1, .c (.lit (.fn 189 [1001000]))), (7, .c (.int .i64)), (8, .c (.int .i64))], [.robox [.lit (.fn 119 [])]], []⟩
def yDf : zF := ⟨[], [], []⟩
def yGr : zF := ⟨[(4, .c (.int .i64))], [], []⟩
def yIn (f : qKd) (d : yEg.den) : Option (Unit ⊕ Int) := f d.1.1.1 d.1.2.2.1.1 d.1.2.2.2.1.1
def qFj : qG := ⟨yEg, [(.exit 0, yDf), (.ret, yGr)], (Unit ⊕ Int), fun k d => yIn (zSv k k) d, fun b x _ K => match x with | .inl x => K (.exit 0) (zT b yDf ((), ())) | .inr x => K .ret (zT b yGr (((x, ()), ()), ()))⟩
def yRp : qC := ⟨prog, fun _ => false, qL [qIi]⟩
def yBx : qA := ⟨[], [(2, qFj)], false⟩
theorem yIj : qJ yRp := zN zM ⟨vCz, trivial⟩
theorem yZe : qE prog 1000 0 19 (zZ (qD f190) 0) qFj := lp (A := yBx) qFj (fun d => match d with | .inl d => .inl () | .inr d => .inr d.1.1.1) yIn zSv zKt yIj zL
def qVe : Nat × zJ := zR 190 [.c (.dat false (.int .i64)), .fn 189 [[.fn 119]]] (.c (.int .i64)) (fun k d => qHd k d.1) (fun x => (x, ()))
theorem yUx : zK prog qVe := fA (rs := .c (.int .i64)) f190 yBx (fun d => d.1) yIj (loops1 yZe)
def qTl : Nat × zJ := zR 123 [.c (.dat false (.int .i64)), .fn 189 [[.fn 119]]] (.c (.bool)) (fun k d => zXw k d.1) (fun x => (x, ()))
theorem vEh : zK prog qTl := fA (rs := .c (.bool)) f123 ⟨[], [], false⟩ (fun d => d.1) (zN (l := [qVe]) zM ⟨yUx, trivial⟩) zL
def qA5 : Nat × zJ := zR 120 [.c (.dat false (.int .i64)), .c (.int .i64), .c (.fn 119)] (.c (.bool)) (fun k d => zSy k d.1 d.2.1) (fun x => (x, ()))
theorem yGz : zK prog qA5 := fA (rs := .c (.bool)) f120 ⟨[], [], false⟩ (fun d => d.1) (zN (l := [qTl]) zM ⟨vEh, trivial⟩) zL
def yMn : zF := ⟨[(1, .c (.int .i64)), (2, .c (.lit (.fn 119 []))), (13, .c (.dat false (.sl (.int .i64)))), (14, .c (.int .i64)), (15, .c (.int .i64))], [], []⟩
def yL0 : zF := ⟨[], [], []⟩
def qSl : zF := ⟨[(6, .c (.bool))], [], []⟩
def yEw (f : qBk) (d : yMn.den) : Option (Unit ⊕ Bool) := f d.1.1.1 d.1.2.2.1.1 d.1.2.2.2.1.1 d.1.2.2.2.2.1.1
def qBl : qG := ⟨yMn, [(.exit 0, yL0), (.ret, qSl)], (Unit ⊕ Bool), fun k d => yEw (zRx k k) d, fun b x _ K => match x with | .inl x => K (.exit 0) (zT b yL0 ((), ())) | .inr x => K .ret (zT b qSl (((x, ()), ()), ()))⟩
def vB7 : qC := ⟨prog, fun _ => false, qL [qA5]⟩
def qR9 : qA := ⟨[], [(4, qBl)], false⟩
theorem yKx : qJ vB7 := zN zM ⟨yGz, trivial⟩
theorem yXm : qE prog 1000 0 25 (zZ (qD f118) 0) qBl := lp (A := qR9) qBl (fun d => match d with | .inl d => .inl () | .inr d => .inr d.1.1.1) yEw zRx zM4 yKx zL
def qRf : Nat × zJ := zR 118 [.c (.dat false (.sl (.int .i64))), .c (.int .i64), .c (.fn 119)] (.c (.bool)) (fun k d => zTs k d.1 d.2.1) (fun x => (x, ()))
theorem yT6 : zK prog qRf := fA (rs := .c (.bool)) f118 qR9 (fun d => d.1) yKx (loops1 yXm)
def yEs : Nat × zJ := zR 121 [.c (.int .i64)] (.c (.bool)) (fun k d => zVy k d.1) (fun x => (x, ()))
theorem vB0 : zK prog yEs := fA (rs := .c (.bool)) f121 ⟨[], [], false⟩ (fun d => d.1) (zN (l := []) zM trivial) zL
def qEd : Nat × zJ := zR 189 [.c (.int .i64), .ptr [.fn 121]] (.c (.bool)) (fun k d => qH0 k d.1) (fun x => (x, ()))
theorem vEx : zK prog qEd := fA (rs := .c (.bool)) f189 ⟨[], [], false⟩ (fun d => d.1) (zN (l := [yEs]) zM ⟨vB0, trivial⟩) zL
def qQo : zF := ⟨[(0, .c (.dat false (.int .i64))), (1, .c (.lit (.fn 189 [1001000]))), (7, .c (.int .i64)), (8, .c (.int .i64))], [.robox [.lit (.fn 121 [])]], []⟩
def yFj : zF := ⟨[], [], []⟩
def qXh : zF := ⟨[(4, .c (.int .i64))], [], []⟩
def qWo (f : qDu) (d : qQo.den) : Option (Unit ⊕ Int) := f d.1.1.1 d.1.2.2.1.1 d.1.2.2.2.1.1
def qK2 : qG := ⟨qQo, [(.exit 0, yFj), (.ret, qXh)], (Unit ⊕ Int), fun k d => qWo (zSb k k) d, fun b x _ K => match x with | .inl x => K (.exit 0) (zT b yFj ((), ())) | .inr x => K .ret (zT b qXh (((x, ()), ()), ()))⟩
def yZo : qC := ⟨prog, fun _ => false, qL [qEd]⟩
def yOq : qA := ⟨[], [(2, qK2)], false⟩
theorem qTp : qJ yZo := zN zM ⟨vEx, trivial⟩
theorem yXi : qE prog 1000 0 19 (zZ (qD f190) 0) qK2 := lp (A := yOq) qK2 (fun d => match d with | .inl d => .inl () | .inr d => .inr d.1.1.1) qWo zSb zK4 qTp zL
def yD2 : Nat × zJ := zR 190 [.c (.dat false (.int .i64)), .fn 189 [[.fn 121]]] (.c (.int .i64)) (fun k d => qGn k d.1) (fun x => (x, ()))
theorem yZ6 : zK prog yD2 := fA (rs := .c (.int .i64)) f190 yOq (fun d => d.1) qTp (loops1 yXi)
def qXg : Nat × zJ := zR 123 [.c (.dat false (.int .i64)), .fn 189 [[.fn 121]]] (.c (.bool)) (fun k d => zX2 k d.1) (fun x => (x, ()))
theorem yRi : zK prog qXg := fA (rs := .c (.bool)) f123 ⟨[], [], false⟩ (fun d => d.1) (zN (l := [yD2]) zM ⟨yZ6, trivial⟩) zL
def qHp : Nat × zJ := zR 120 [.c (.dat false (.int .i64)), .c (.int .i64), .c (.fn 121)] (.c (.bool)) (fun k d => zUr k d.1 d.2.1) (fun x => (x, ()))
theorem vIw : zK prog qHp := fA (rs := .c (.bool)) f120 ⟨[], [], false⟩ (fun d => d.1) (zN (l := [qXg]) zM ⟨yRi, trivial⟩) zL
def yOu : zF := ⟨[(1, .c (.int .i64)), (2, .c (.lit (.fn 121 []))), (13, .c (.dat false (.sl (.int .i64)))), (14, .c (.int .i64)), (15, .c (.int .i64))], [], []⟩
def yNg : zF := ⟨[], [], []⟩
def qU9 : zF := ⟨[(6, .c (.bool))], [], []⟩
def yJ8 (f : qNt) (d : yOu.den) : Option (Unit ⊕ Bool) := f d.1.1.1 d.1.2.2.1.1 d.1.2.2.2.1.1 d.1.2.2.2.2.1.1
def qNo : qG := ⟨yOu, [(.exit 0, yNg), (.ret, qU9)], (Unit ⊕ Bool), fun k d => yJ8 (zSd k k) d, fun b x _ K => match x with | .inl x => K (.exit 0) (zT b yNg ((), ())) | .inr x => K .ret (zT b qU9 (((x, ()), ()), ()))⟩
def yWz : qC := ⟨prog, fun _ => false, qL [qHp]⟩
def yO7 : qA := ⟨[], [(4, qNo)], false⟩
theorem yO2 : qJ yWz := zN zM ⟨vIw, trivial⟩
theorem vJf : qE prog 1000 0 25 (zZ (qD f118) 0) qNo := lp (A := yO7) qNo (fun d => match d with | .inl d => .inl () | .inr d => .inr d.1.1.1) yJ8 zSd zMm yO2 zL
def yNc : Nat × zJ := zR 118 [.c (.dat false (.sl (.int .i64))), .c (.int .i64), .c (.fn 121)] (.c (.bool)) (fun k d => zUh k d.1 d.2.1) (fun x => (x, ()))
theorem yZs : zK prog yNc := fA (rs := .c (.bool)) f118 yO7 (fun d => d.1) yO2 (loops1 vJf)
def yG6 : zF := ⟨[(0, .c (.dat false (.sl (.int .i64)))), (3, .c (.int .i64)), (7, .c (.dat false (.sl (.int .i64)))), (8, .c (.int .i64)), (9, .c (.int .i64)), (14, .c (.dat false (.int .i64))), (15, .c (.int .i64)), (16, .c (.int .i64))], [], []⟩
def yG9 : zF := ⟨[(0, .c (.dat false (.sl (.int .i64)))), (7, .c (.dat false (.sl (.int .i64)))), (8, .c (.int .i64)), (9, .c (.int .i64))], [], []⟩
def yHp : zF := ⟨[(2, .c (.bool))], [], []⟩
def qSj (f : qFa) (d : yG6.den) : Option zT4 := f d.1.1.1 d.1.2.1.1 d.1.2.2.1.1 d.1.2.2.2.1.1 d.1.2.2.2.2.1.1 d.1.2.2.2.2.2.1.1 d.1.2.2.2.2.2.2.1.1 d.1.2.2.2.2.2.2.2.1.1
def qN6 : qG := ⟨yG6, [(.exit 2, yG9), (.ret, yHp)], zT4, fun k d => qSj (zLh k k) d, fun b x _ K => match x with | .inl x => K (.exit 2) (zT b yG9 (((x.1, ()), (x.2.1, ()), (x.2.2.1, ()), (x.2.2.2, ()), ()), ())) | .inr x => K .ret (zT b yHp (((x, ()), ()), ()))⟩
def qRz : zF := ⟨[(0, .c (.dat false (.sl (.int .i64)))), (7, .c (.dat false (.sl (.int .i64)))), (8, .c (.int .i64)), (9, .c (.int .i64))], [], []⟩
def yEn : zF := ⟨[], [], []⟩
def yIk : zF := ⟨[(2, .c (.bool))], [], []⟩
def yDk (f : qDh) (d : qRz.den) : Option (Unit ⊕ Bool) := f d.1.1.1 d.1.2.1.1 d.1.2.2.1.1 d.1.2.2.2.1.1
def qEo : qG := ⟨qRz, [(.exit 0, yEn), (.ret, yIk)], (Unit ⊕ Bool), fun k d => yDk (zRy k k) d, fun b x _ K => match x with | .inl x => K (.exit 0) (zT b yEn ((), ())) | .inr x => K .ret (zT b yIk (((x, ()), ()), ()))⟩
def vCi : qC := ⟨prog, fun _ => false, qL []⟩
def qEv : qA := ⟨[], [(5, qN6), (2, qEo)], false⟩
theorem qI5 : qJ vCi := zN zM trivial
theorem yPf : qE prog 1000 0 33 (zZ (zZ (qD f122) 0) 0) qN6 := lp (A := qEv) qN6 (fun d => match d with | .inl d => .inl (d.1.1.1, d.1.2.1.1, d.1.2.2.1.1, d.1.2.2.2.1.1) | .inr d => .inr d.1.1.1) qSj zLh zMl qI5 zL
theorem yTx : qE prog 1000 0 33 (zZ (qD f122) 0) qEo := lp (A := qEv) qEo (fun d => match d with | .inl d => .inl () | .inr d => .inr d.1.1.1) yDk zRy zN7 qI5 (loops1 yPf)
def yCx : Nat × zJ := zR 122 [.c (.dat false (.sl (.int .i64)))] (.c (.bool)) (fun k d => zXa k d.1) (fun x => (x, ()))
theorem vCx : zK prog yCx := fA (rs := .c (.bool)) f122 qEv (fun d => d.1) qI5 (loops1 yTx)
def zPx : Nat × zJ := zR 65 [.agg wC] (.c (.bool)) (fun k d => (yZ (zIc k) d)) (fun x => (x, ()))
theorem yO5 : zK prog zPx := fA (rs := .c (.bool)) f65 ⟨[], [], false⟩ (fun d => d.1) (zN (l := [yB4, qRf, qA5, yNc, yCx]) zM ⟨yQh, yT6, yGz, yZs, vCx, trivial⟩) zL
def qZ8 : zF := ⟨[(2, .c (.lit (.ptr 1001000 0))), (4, .c (.lit (.ptr 1001001 0))), (7, .c (.lit (.ptr 1001002 0))), (24, .c (.dat false zI)), (25, .c (.int .i64)), (26, .c (.int .i64))], [.box true jI, .box true zF4, .box true zG3, .arr true yI, .mat, .arr true (.int .i64), .mat], []⟩
def yNj : zF := ⟨[(2, .c (.lit (.ptr 1001000 0))), (4, .c (.lit (.ptr 1001001 0))), (7, .c (.lit (.ptr 1001002 0)))], [.box true jI, .box true zF4, .box true zG3, .arr true yI, .mat, .arr true (.int .i64), .mat], []⟩
def qYf (f : qJn) (d : qZ8.den) : Option zUn := (yZ (f d.1.2.2.2.1.1 d.1.2.2.2.2.1.1 d.1.2.2.2.2.2.1.1) d.2.1) d.2.2.2.2.1 d.2.2.2.2.2.1 d.2.2.2.2.2.2.1 d.2.2.2.2.2.2.2.1
def qPl : qG := ⟨qZ8, [(.exit 0, yNj)], zUn, fun k d => qYf (zLy k k) d, fun b x _ K => K (.exit 0) (zT b yNj (((), (), (), ()), ((wD x ()), (), (), x.2.2.2.2.1, x.2.2.2.2.2.1, x.2.2.2.2.2.2.1, x.2.2.2.2.2.2.2, ())))⟩
def vBb : qC := ⟨prog, fun _ => false, qL [qH5, zCd, zP1, zPx]⟩
def yNe : qA := ⟨[], [(6, qPl)], false⟩
theorem yLb : qJ vBb := zN zM ⟨yQc, zEs, qC2, yO5, trivial⟩
theorem yWi : qE prog 1000 0 104 (zZ (qD f200) 0) qPl := lp (A := yNe) qPl (fun d => (wD d.2.1 (d.2.2.2.2.1, d.2.2.2.2.2.1, d.2.2.2.2.2.2.1, d.2.2.2.2.2.2.2.1))) qYf zLy zOb yLb zL
def zHs : Nat × zJ := zR 200 [.agg zC2, .c (.dat false zI)] (.tup [(true, zAs), (false, qX)]) (fun k d => (zAn (zDu k) d)) (fun x => (zBg x ()))
theorem qOs : zK prog zHs := fA (rs := .tup [(true, zAs), (false, qX)]) f200 yNe (fun d => (vA d)) yLb (loops1 yWi)
def qU2 : zF := ⟨[(3, .c (.lit (.ptr 1001000 0))), (6, .c (.lit (.ptr 1001001 0))), (7, .c (.lit (.ptr 1001002 0))), (15, .c (.lit (.osl 1001003 none))), (16, .c (.int .i64)), (17, .c (.int .i64))], [.box true jI, .box true zCf, .box true zF4, .arr true zI], []⟩
def qV8 : zF := ⟨[(3, .c (.lit (.ptr 1001000 0))), (6, .c (.lit (.ptr 1001001 0))), (7, .c (.lit (.ptr 1001002 0)))], [.box true jI, .box true zCf, .box true zF4], []⟩
def yBp : zF := ⟨[(6, .c (.lit (.ptr 1001000 0))), (7, .c (.lit (.ptr 1001001 0))), (8, .c (.bool))], [.box true zCf, .box true jI], []⟩
def qTe (f : qP4) (d : qU2.den) : Option zVc := (zIu (yZ (f d.1.2.2.2.2.1.1 d.1.2.2.2.2.2.1.1) d.2.1) d.2.2.1) d.2.2.2.2.1
def qLj : qG := ⟨qU2, [(.exit 0, qV8), (.ret, yBp)], zVc, fun k d => qTe (zQd k k) d, fun b x _ K => match x with | .inl x => K (.exit 0) (zT b qV8 (((), (), (), ()), ((wD x ()), (vDt x ()), (), ()))) | .inr x => K .ret (zT b yBp (((), (), (x.1, ()), ()), ((yXn x ()), (vEu x ()), ())))⟩
def yU9 : qC := ⟨prog, fun _ => false, qL [zPn, zSz, zHs]⟩
def yE9 : qA := ⟨[], [(2, qLj)], false⟩
theorem yBs : qJ yU9 := zN zM ⟨yE5, yJg, qOs, trivial⟩
theorem yZn : qE prog 1000 0 40 (zZ (qD f143) 0) qLj := lp (A := yE9) qLj (fun d => match d with | .inl d => .inl (wD d.2.1 (zAz d.2.2.1)) | .inr d => .inr (d.1.2.2.1.1, (zQo d.2.1 (zFt d.2.2.1)))) qTe zQd zMu yBs zL
def zXl : Nat × zJ := zR 143 [.agg zC2, .c (.dat true zI), .c (.int .i64)] (.tup [(true, zCx), (true, zAs), (false, [.bool])]) (fun k d => (zB4 (zSh k) d)) (fun x => (zQv x ()))
theorem yFc : zK prog zXl := fA (rs := .tup [(true, zCx), (true, zAs), (false, [.bool])]) f143 yE9 (fun d => (zQl d)) yBs (loops1 yZn)
def yEp : zF := ⟨[(2, .c (.int .i64)), (6, .c (.lit (.ptr 1001000 0))), (7, .c (.dat true zI)), (8, .c (.lit (.osl 1001001 none)))], [.box true jI, .arr true zI], [(8, none, zI, false)]⟩
def yBr : zF := ⟨[(6, .c (.lit (.ptr 1001000 0))), (7, .c (.dat true zI)), (8, .c (.lit (.osl 1001001 none)))], [.box true jI, .arr true zI], []⟩
def yLo (f : qE7) (d : yEp.den) : Option qAn := (yZ (f d.1.1.1 d.1.2.2.1.1) d.2.1) d.2.2.1
def qHs : qG := ⟨yEp, [(.ret, yBr)], qAn, fun k d => yLo (zRc k k) d, fun b x _ K => K .ret (zT b yBr (((), (x.1, ()), (), ()), ((zCs x ()), x.2.2.2.2.2, ())))⟩
def vF6 : qC := ⟨prog, fun _ => false, qL [zXl, zC7]⟩
def yNm : qA := ⟨[], [(2, qHs)], false⟩
theorem qSv : qJ vF6 := zN zM ⟨yFc, zIp, trivial⟩
theorem vCs : qE prog 1000 0 40 (zZ (qD f216) 0) qHs := lp (A := yNm) qHs (fun d => (d.1.2.1.1, (wD d.2.1 d.2.2.1))) yLo zRc zMi qSv zL
def qG2 : Nat × zJ := zR 216 [.agg zC2, .c (.dat true zI), .c (.int .i64)] (.tup [(true, zAs), (false, [.fro zI]), (false, [.own zI])]) (fun k d => (zB4 (zW2 k) d)) (fun x => (zGd x ()))
theorem vBr : zK prog qG2 := fA (rs := .tup [(true, zAs), (false, [.fro zI]), (false, [.own zI])]) f216 yNm (fun d => (zHm d)) qSv (loops1 vCs)
def yIe : zF := ⟨[(3, .c (.lit (.ptr 1001000 0))), (6, .c (.lit (.ptr 1001001 0))), (8, .c (.lit (.osl 1001002 none))), (10, .c (.lit (.ptr 1001003 0))), (18, .c (.lit (.osl 1001002 none))), (19, .c (.int .i64)), (20, .c (.int .i64)), (24, .c (.lit (.osl 1001002 none))), (25, .c (.int .i64)), (26, .c (.int .i64))], [.box true jI, .box true zZ4, .arr true zI, .box true zCf], []⟩
def yDt : zF := ⟨[(3, .c (.lit (.ptr 1001000 0))), (6, .c (.lit (.ptr 1001001 0))), (8, .c (.lit (.osl 1001002 none))), (18, .c (.lit (.osl 1001002 none))), (19, .c (.int .i64)), (20, .c (.int .i64))], [.box true jI, .box true zZ4, .arr true zI], []⟩
def yG7 : zF := ⟨[(6, .c (.lit (.ptr 1001000 0))), (7, .c (.bool))], [.box true yDy], []⟩
def yHr (f : qE2) (d : yIe.den) : Option zTg := (zIu ((zJ3 (yZ (f d.1.2.2.2.2.2.1.1 d.1.2.2.2.2.2.2.1.1 d.1.2.2.2.2.2.2.2.2.1.1 d.1.2.2.2.2.2.2.2.2.2.1.1) d.2.1) d.2.2.1) d.2.2.2.1) d.2.2.2.2.1)
def qBh : qG := ⟨yIe, [(.exit 2, yDt), (.ret, yG7)], zTg, fun k d => yHr (zO7 k k) d, fun b x _ K => match x with | .inl x => K (.exit 2) (zT b yDt (((), (), (), (), (x.1, ()), (x.2.1, ()), ()), ((zTl x ()), (yVj x ()), x.2.2.2.2.2.2.2.2.2.2.2.2.2.2.2.2.2.2.2.2, ()))) | .inr x => K .ret (zT b yG7 (((), (x.1, ()), ()), ((qG6 x ()), ())))⟩
def yIz : zF := ⟨[(3, .c (.lit (.ptr 1001000 0))), (6, .c (.lit (.ptr 1001001 0))), (8, .c (.lit (.osl 1001002 none))), (18, .c (.lit (.osl 1001002 none))), (19, .c (.int .i64)), (20, .c (.int .i64))], [.box true jI, .box true zZ4, .arr true zI], []⟩
def qU3 : zF := ⟨[(6, .c (.lit (.ptr 1001000 0)))], [.box true zZ4], []⟩
def yJu : zF := ⟨[(6, .c (.lit (.ptr 1001000 0))), (7, .c (.bool))], [.box true yDy], []⟩
def qXd (f : qNq) (d : yIz.den) : Option zVw := (zJ3 (yZ (f d.1.2.2.2.2.1.1 d.1.2.2.2.2.2.1.1) d.2.1) d.2.2.1) d.2.2.2.1
def qHj : qG := ⟨yIz, [(.exit 0, qU3), (.ret, yJu)], zVw, fun k d => qXd (zR2 k k) d, fun b x _ K => match x with | .inl x => K (.exit 0) (zT b qU3 (((), ()), ((yLh x ()), ()))) | .inr x => K .ret (zT b yJu (((), (x.1, ()), ()), ((qG6 x ()), ())))⟩
def vIf : qC := ⟨prog, fun _ => false, qL [zPn, zSz, zHs]⟩
def qIv : qA := ⟨[], [(6, qBh), (3, qHj)], false⟩
theorem qCm : qJ vIf := zN zM ⟨yE5, yJg, qOs, trivial⟩
theorem yQs : qE prog 1000 0 74 (zZ (zZ (qD f248) 0) 0) qBh := lp (A := qIv) qBh (fun d => match d with | .inl d => .inl (d.1.2.2.2.2.1.1, d.1.2.2.2.2.2.1.1, (wD d.2.1 (qGk d.2.2.1 d.2.2.2.1))) | .inr d => .inr (d.1.2.1.1, (zAq d.2.1))) yHr zO7 zNe qCm zL
theorem vJx : qE prog 1000 0 74 (zZ (qD f248) 0) qHj := lp (A := qIv) qHj (fun d => match d with | .inl d => .inl (yAk d.2.1) | .inr d => .inr (d.1.2.1.1, (zAq d.2.1))) qXd zR2 zNl qCm (loops1 yQs)
def qBs : Nat × zJ := zR 248 [.agg zC2, .c (.dat true zI), .c (.int .i64)] (.tup [(true, yBi), (false, [.bool])]) (fun k d => (zB4 (qA0 k) d)) (fun x => (yZ7 x ()))
theorem vDy : zK prog qBs := fA (rs := .tup [(true, yBi), (false, [.bool])]) f248 qIv (fun d => (vHk d)) qCm (loops1 vJx)
def yN7 : zF := ⟨[(2, .c (.int .i64)), (6, .c (.lit (.ptr 1001000 0))), (7, .c (.dat true zI)), (8, .c (.lit (.osl 1001001 none))), (33, .c (.lit (.osl 1001002 none))), (34, .c (.int .i64)), (35, .c (.int .i64))], [.box true jI, .arr true zI, .arr true zI], [(8, none, zI, false)]⟩
def qUd : zF := ⟨[(2, .c (.int .i64)), (6, .c (.lit (.ptr 1001000 0))), (7, .c (.dat true zI)), (8, .c (.lit (.osl 1001001 none)))], [.box true jI, .arr true zI], []⟩
def yKc (f : qOl) (d : yN7.den) : Option zV1 := (yZ (f d.1.1.1 d.1.2.2.1.1 d.1.2.2.2.2.2.1.1 d.1.2.2.2.2.2.2.1.1) d.2.1) d.2.2.1 d.2.2.2.1
def qEp : qG := ⟨yN7, [(.exit 2, qUd)], zV1, fun k d => yKc (zE8 k k) d, fun b x _ K => K (.exit 2) (zT b qUd (((x.1, ()), (), (x.2.1, ()), (), ()), ((zTl x ()), x.2.2.2.2.2.2, ())))⟩
def yEh : zF := ⟨[(2, .c (.int .i64)), (6, .c (.lit (.ptr 1001000 0))), (7, .c (.dat true zI)), (8, .c (.lit (.osl 1001001 none)))], [.box true jI, .arr true zI], [(8, none, zI, false)]⟩
def qTv : zF := ⟨[(6, .c (.lit (.ptr 1001000 0))), (7, .c (.dat true zI)), (8, .c (.lit (.osl 1001001 none)))], [.box true jI, .arr true zI], []⟩
def yN1 (f : qKh) (d : yEh.den) : Option zVu := (yZ (f d.1.1.1 d.1.2.2.1.1) d.2.1) d.2.2.1
def qOq : qG := ⟨yEh, [(.ret, qTv)], zVu, fun k d => yN1 (zPy k k) d, fun b x _ K => K .ret (zT b qTv (((), (x.1, ()), (), ()), ((zCs x ()), x.2.2.2.2.2, ())))⟩
def vG0 : qC := ⟨prog, fun _ => false, qL [qBs, zC7]⟩
def qJ2 : qA := ⟨[], [(7, qEp), (2, qOq)], false⟩
theorem qNe : qJ vG0 := zN zM ⟨vDy, zIp, trivial⟩
theorem vDd : qE prog 1000 0 52 (zZ (zZ (qD f217) 0) 0) qEp := lp (A := qJ2) qEp (fun d => (d.1.1.1, d.1.2.2.1.1, (wD d.2.1 d.2.2.1))) yKc zE8 zGc qNe zL
theorem yWr : qE prog 1000 0 52 (zZ (qD f217) 0) qOq := lp (A := qJ2) qOq (fun d => (d.1.2.1.1, (wD d.2.1 d.2.2.1))) yN1 zPy zL1 qNe (loops1 vDd)
def qLy : Nat × zJ := zR 217 [.agg zC2, .c (.dat true zI), .c (.int .i64)] (.tup [(true, zAs), (false, [.fro zI]), (false, [.own zI])]) (fun k d => (zB4 (zTk k) d)) (fun x => (zGd x ()))
theorem yV8 : zK prog qLy := fA (rs := .tup [(true, zAs), (false, [.fro zI]), (false, [.own zI])]) f217 qJ2 (fun d => (zHm d)) qNe (loops1 yWr)
def yD8 : zF := ⟨[(2, .c (.int .i64)), (6, .c (.lit (.ptr 1001000 0))), (7, .c (.dat true zI)), (8, .c (.lit (.osl 1001001 none)))], [.box true jI, .arr true zI], [(8, none, zI, false)]⟩
def qS4 : zF := ⟨[(6, .c (.lit (.ptr 1001000 0))), (7, .c (.dat true zI)), (8, .c (.lit (.osl 1001001 none)))], [.box true jI, .arr true zI], []⟩
def qXn (f : qBd) (d : yD8.den) : Option zXv := (yZ (f d.1.1.1 d.1.2.2.1.1) d.2.1) d.2.2.1
def qCo : qG := ⟨yD8, [(.ret, qS4)], zXv, fun k d => qXn (zPz k k) d, fun b x _ K => K .ret (zT b qS4 (((), (x.1, ()), (), ()), ((zCs x ()), x.2.2.2.2.2, ())))⟩
def yQe : qC := ⟨prog, fun _ => false, qL [qG2, qLy]⟩
def yDd : qA := ⟨[], [(2, qCo)], false⟩
theorem qZw : qJ yQe := zN zM ⟨vBr, yV8, trivial⟩
theorem vAs : qE prog 1000 0 40 (zZ (qD f172) 0) qCo := lp (A := yDd) qCo (fun d => (d.1.2.1.1, (wD d.2.1 d.2.2.1))) qXn zPz zVz qZw zL
def yK4 : Nat × zJ := zR 172 [.agg zC2, .c (.dat true zI), .c (.int .i64)] (.tup [(true, zAs), (false, [.fro zI]), (false, [.own zI])]) (fun k d => (zB4 (zPw k) d)) (fun x => (zGd x ()))
theorem yXg : zK prog yK4 := fA (rs := .tup [(true, zAs), (false, [.fro zI]), (false, [.own zI])]) f172 yDd (fun d => (zHm d)) qZw (loops1 vAs)
def yLa : Nat × zJ := zIw 249 false (.int .i64) (.own (.int .i64)) qB4
theorem vEk : zK prog yLa := fC f249 ⟨[], [], false⟩ (zN (l := []) zM trivial) zL
def qKu : Nat × zJ := wU 250 [.agg vP, .ptr true [.own (.int .i64)]] (.c (.bool)) [[.own (.int .i64)]] (fun k d => (zCr (qHo k) d)) (fun x => (x.1, x.2, ()))
theorem vD8 : zK prog qKu := fX (rs := .c (.bool)) (os := [[.own (.int .i64)]]) f250 ⟨[], [], false⟩ 2 (fun d => (d.1, d.2.1)) (zN (l := []) zM trivial) zL
def qZm : zF := ⟨[(1, .c (.lit (.fn 250 [1001000]))), (5, .c (.lit (.osl 1001002 none))), (8, .c (.dat false zI)), (9, .c (.int .i64)), (10, .c (.int .i64))], [.box true [.lit (.osl 1001001 none)], .arr true (.int .i64), .arr true zI], [(5, none, zI, false)]⟩
def yGx : zF := ⟨[(1, .c (.lit (.fn 250 [1001000]))), (5, .c (.lit (.osl 1001002 none)))], [.box true [.lit (.osl 1001001 none)], .arr true (.int .i64), .arr true zI], []⟩
def yIv (f : qNl) (d : qZm.den) : Option zVj := f d.1.2.2.1.1 d.1.2.2.2.1.1 d.1.2.2.2.2.1.1 d.2.2.1 d.2.2.2.1
def qCc : qG := ⟨qZm, [(.exit 0, yGx)], zVj, fun k d => yIv (zJ5 k k) d, fun b x _ K => K (.exit 0) (zT b yGx (((), (), ()), ((), x.1, x.2, ())))⟩
def vBu : qC := ⟨prog, fun _ => false, qL [qKu]⟩
def yFq : qA := ⟨[], [(3, qCc)], false⟩
theorem qQu : qJ vBu := zN zM ⟨vD8, trivial⟩
theorem yS8 : qE prog 1000 2 23 (zZ (qD f153) 0) qCc := lp (A := yFq) qCc (fun d => (d.2.2.1, d.2.2.2.1)) yIv zJ5 zLb qQu zL
def qTh : Nat × zJ := wU 153 [.c (.p (.dat false zI)), .fn 250 [(true, [.own (.int .i64)])]] (.c (.own zI)) [[.own (.int .i64)]] (fun k d => qFc k d.1 d.2.1) (fun x => (x.1, x.2, ()))
theorem vGv : zK prog qTh := fX (rs := .c (.own zI)) (os := [[.own (.int .i64)]]) f153 yFq 2 (fun d => (d.1, d.2.1)) qQu (loops1 yS8)
def zRh : Nat × zJ := zR 219 [.c (.dat false zI), .c (.dat false (.int .i64))] (.c (.own zI)) (fun k d => zNh k d.1 d.2.1) (fun x => (x, ()))
theorem yAx : zK prog zRh := fA (rs := .c (.own zI)) f219 ⟨[], [], false⟩ (fun d => d.1) (zN (l := [yLa, qTh]) zM ⟨vEk, vGv, trivial⟩) zL
def yA4 : zF := ⟨[(3, .c (.lit (.ptr 1001000 0))), (6, .c (.lit (.osl 1001001 none))), (7, .c (.int .i64)), (8, .c (.lit (.osl 1001002 none))), (18, .c (.int .i64)), (19, .c (.int .i64))], [.box true jF, .arr true (.int .i64), .arr true zI], [(6, none, (.int .i64), false)]⟩
def yHm : zF := ⟨[(3, .c (.lit (.ptr 1001000 0))), (6, .c (.lit (.osl 1001001 none))), (7, .c (.int .i64)), (8, .c (.lit (.osl 1001002 none)))], [.box true jF, .arr true (.int .i64), .arr true zI], []⟩
def yB2 (f : qKi) (d : yA4.den) : Option zUk := (yZ (f d.1.2.2.1.1 d.1.2.2.2.2.1.1 d.1.2.2.2.2.2.1.1) d.2.1) d.2.2.1 d.2.2.2.1
def zZ0 : qG := ⟨yA4, [(.exit 0, yHm)], zUk, fun k d => yB2 (zHi k k) d, fun b x _ K => K (.exit 0) (zT b yHm (((), (), (x.1, ()), (), ()), ((zCs x ()), x.2.2.2.2.2.1, x.2.2.2.2.2.2, ())))⟩
def qU7 : zF := ⟨[(3, .c (.lit (.ptr 1001000 0))), (6, .c (.lit (.osl 1001001 none))), (7, .c (.int .i64)), (8, .c (.lit (.osl 1001002 none))), (42, .c (.lit (.osl 1001003 none))), (43, .c (.int .i64)), (44, .c (.int .i64))], [.box true jF, .arr true (.int .i64), .arr true zI, .arr true (.int .i64)], []⟩
def qW2 : zF := ⟨[(3, .c (.lit (.ptr 1001000 0))), (6, .c (.lit (.osl 1001001 none))), (7, .c (.int .i64)), (8, .c (.lit (.osl 1001002 none)))], [.box true jF, .arr true (.int .i64), .arr true zI], []⟩
def yAs (f : qGy) (d : qU7.den) : Option zS5 := (yZ (f d.1.2.2.1.1 d.1.2.2.2.2.2.1.1 d.1.2.2.2.2.2.2.1.1) d.2.1) d.2.2.1 d.2.2.2.1 d.2.2.2.2.1
def qN3 : qG := ⟨qU7, [(.exit 4, qW2)], zS5, fun k d => yAs (zMj k k) d, fun b x _ K => K (.exit 4) (zT b qW2 (((), (), (x.1, ()), (), ()), ((zCs x ()), x.2.2.2.2.2.1, x.2.2.2.2.2.2, ())))⟩
def yEv : zF := ⟨[(3, .c (.lit (.ptr 1001000 0))), (6, .c (.lit (.osl 1001001 none))), (7, .c (.int .i64)), (8, .c (.lit (.osl 1001002 none)))], [.box true jF, .arr true (.int .i64), .arr true zI], []⟩
def yNq : zF := ⟨[(6, .c (.lit (.osl 1001000 none))), (7, .c (.int .i64))], [.arr true (.int .i64)], []⟩
def qVq (f : qPv) (d : yEv.den) : Option (Int × (List Int)) := (yZ (f d.1.2.2.1.1) d.2.1) d.2.2.1 d.2.2.2.1
def zZr : qG := ⟨yEv, [(.ret, yNq)], (Int × (List Int)), fun k d => qVq (zRl k k) d, fun b x _ K => K .ret (zT b yNq (((), (x.1, ()), ()), (x.2, ())))⟩
def yT9 : qC := ⟨prog, fun _ => false, qL [zLl, zV7, zRh, zWh]⟩
def qA1 : qA := ⟨[], [(3, zZ0), (12, qN3), (7, zZr)], false⟩
theorem qAs : qJ yT9 := zN zM ⟨qPn, yI1, yAx, yN2, trivial⟩
theorem vBh : qE prog 1000 0 55 (zZ (qD f218) 0) zZ0 := lp (A := qA1) zZ0 (fun d => (d.1.2.2.1.1, (wD d.2.1 (d.2.2.1, d.2.2.2.1)))) yB2 zHi zLj qAs zL
theorem vIt : qE prog 1000 0 55 (zZ (zZ (qD f218) 1) 0) qN3 := lp (A := qA1) qN3 (fun d => (d.1.2.2.1.1, (wD d.2.1 (d.2.2.1, d.2.2.2.1)))) yAs zMj zOj qAs zL
theorem yUy : qE prog 1000 0 55 (zZ (qD f218) 1) zZr := lp (A := qA1) zZr (fun d => (d.1.2.1.1, d.2.1)) qVq zRl zM7 qAs (loops1 vIt)
def qHn : Nat × zJ := zR 218 [.agg wC, .c (.dat false zI), .c (.int .i64)] (.tup [(false, [.own (.int .i64)]), (false, qX)]) (fun k d => (zB4 (zYq k) d)) (fun x => (x.1, x.2, ()))
theorem yZr : zK prog qHn := fA (rs := .tup [(false, [.own (.int .i64)]), (false, qX)]) f218 qA1 (fun d => (d.1, d.2.1)) qAs (zGk (n := 2) (by kernel_rfl) fun i hi => match i, hi with | 0, _ => ⟨zZ0, by kernel_rfl, vBh⟩ | 1, _ => ⟨zZr, by kernel_rfl, yUy⟩ | i + 2, hi => absurd hi (by omega))
def qQh : zF := ⟨[(6, .c (.lit (.ptr 1001000 0))), (7, .c (.dat true zI)), (11, .c (.lit (.osl 1001001 none))), (38, .c (.lit (.osl 1001001 none))), (39, .c (.int .i64)), (40, .c (.int .i64))], [.box true jI, .arr true zI], []⟩
def qYn : zF := ⟨[(6, .c (.lit (.ptr 1001000 0))), (7, .c (.dat true zI)), (11, .c (.lit (.osl 1001001 none)))], [.box true jI, .arr true zI], []⟩
def yEq (f : qO1) (d : qQh.den) : Option zTo := (yZ (f d.1.2.1.1 d.1.2.2.2.2.1.1 d.1.2.2.2.2.2.1.1) d.2.1) d.2.2.1
def qBm : qG := ⟨qQh, [(.exit 0, qYn)], zTo, fun k d => yEq (zHe k k) d, fun b x _ K => K (.exit 0) (zT b qYn (((), (x.1, ()), (), ()), ((zCs x ()), x.2.2.2.2.2, ())))⟩
def vD7 : qC := ⟨prog, fun _ => false, qL [qHn, zLl, zRh, zHs, zC7]⟩
def qZ4 : qA := ⟨[], [(8, qBm)], false⟩
theorem qY4 : qJ vD7 := zN zM ⟨yZr, qPn, yAx, qOs, zIp, trivial⟩
theorem vBp : qE prog 1000 0 56 (zZ (qD f173) 0) qBm := lp (A := qZ4) qBm (fun d => (d.1.2.1.1, (wD d.2.1 d.2.2.1))) yEq zHe zM8 qY4 zL
def yBu : Nat × zJ := zR 173 [.agg zC2, .c (.dat true zI), .c (.int .i64)] (.tup [(true, zAs), (false, [.fro zI]), (false, [.own zI])]) (fun k d => (zB4 (zKb k) d)) (fun x => (zGd x ()))
theorem ySx : zK prog yBu := fA (rs := .tup [(true, zAs), (false, [.fro zI]), (false, [.own zI])]) f173 qZ4 (fun d => (zHm d)) qY4 (loops1 vBp)
def qZy : Nat × zJ := zR 96 [.agg zC2, .c (.dat true zI), .c (.int .i64), .c (.bool)] (.tup [(true, zAs), (false, [.fro zI]), (false, [.own zI])]) (fun k d => (zIu (zHx k) d)) (fun x => (zGd x ()))
theorem yT0 : zK prog qZy := fA (rs := .tup [(true, zAs), (false, [.fro zI]), (false, [.own zI])]) f96 ⟨[], [], false⟩ (fun d => (zHm d)) (zN (l := [yK4, yBu]) zM ⟨yXg, ySx, trivial⟩) zL
def yHh : zF := ⟨[(3, .c (.lit (.osl 1001000 none))), (5, .c (.lit (.ptr 1001001 0))), (8, .c (.dat false zI)), (9, .c (.int .i64)), (10, .c (.int .i64)), (18, .c (.lit (.osl 1001002 none))), (19, .c (.int .i64)), (20, .c (.int .i64))], [.arr true yR, .box true zCf, .arr true (.int .i64)], [(3, none, yR, false)]⟩
def yCv : zF := ⟨[(3, .c (.lit (.osl 1001000 none))), (8, .c (.dat false zI)), (9, .c (.int .i64)), (10, .c (.int .i64))], [.arr true yR], []⟩
def qWm (f : qGw) (d : yHh.den) : Option zUs := (zIu (f d.1.2.2.1.1 d.1.2.2.2.1.1 d.1.2.2.2.2.1.1 d.1.2.2.2.2.2.2.1.1 d.1.2.2.2.2.2.2.2.1.1 d.2.1) d.2.2.1) d.2.2.2.1
def qHw : qG := ⟨yHh, [(.exit 2, yCv)], zUs, fun k d => qWm (zGw k k) d, fun b x _ K => K (.exit 2) (zT b yCv (((), (x.1, ()), (x.2.1, ()), (x.2.2.1, ()), ()), (x.2.2.2, ())))⟩
def qQs : zF := ⟨[(3, .c (.lit (.osl 1001000 none))), (8, .c (.dat false zI)), (9, .c (.int .i64)), (10, .c (.int .i64))], [.arr true yR], [(3, none, yR, false)]⟩
def yOd : zF := ⟨[(3, .c (.lit (.osl 1001000 none)))], [.arr true yR], []⟩
def yNa (f : qN2) (d : qQs.den) : Option zYr := f d.1.2.1.1 d.1.2.2.1.1 d.1.2.2.2.1.1 d.2.1
def qB5 : qG := ⟨qQs, [(.exit 0, yOd)], zYr, fun k d => yNa (zNz k k) d, fun b x _ K => K (.exit 0) (zT b yOd (((), ()), (x, ())))⟩
def ySu : qC := ⟨prog, fun _ => false, qL [zJb]⟩
def qNm : qA := ⟨[], [(6, qHw), (3, qB5)], false⟩
theorem qMu : qJ ySu := zN zM ⟨qD3, trivial⟩
theorem yZu : qE prog 1000 0 41 (zZ (zZ (qD f97) 0) 0) qHw := lp (A := qNm) qHw (fun d => (d.1.2.1.1, d.1.2.2.1.1, d.1.2.2.2.1.1, d.2.1)) qWm zGw zGh qMu zL
theorem yQk : qE prog 1000 0 41 (zZ (qD f97) 0) qB5 := lp (A := qNm) qB5 (fun d => d.2.1) yNa zNz zKg qMu (loops1 yZu)
def qUp : Nat × zJ := zR 97 [.c (.dat false zI)] (.c (.own yR)) (fun k d => zT8 k d.1) (fun x => (x, ()))
theorem yP2 : zK prog qUp := fA (rs := .c (.own yR)) f97 qNm (fun d => d.1) qMu (loops1 yQk)
def zYf : Nat × zJ := zR 50 [.agg zRg, .c (.bool)] (.tup [(true, zG7), (false, [.own yR])]) (fun k d => (zWv (zE1 k) d)) (fun x => (zQv x ()))
theorem qVs : zK prog zYf := fA (rs := .tup [(true, zG7), (false, [.own yR])]) f50 ⟨[], [], false⟩ (fun d => (zQl d)) (zN (l := [qZy, qUp]) zM ⟨yT0, yP2, trivial⟩) zL
def qS1 : zF := ⟨[(2, .c (.lit (.ptr 1001000 0))), (3, .c (.lit (.ptr 1001001 0))), (4, .c (.lit (.ptr 1001002 0))), (6, .c (.lit (.osl 1001003 none))), (7, .c (.lit (.osl 1001004 none))), (27, .c (.dat true zI)), (28, .c (.int .i64)), (29, .c (.int .i64))], [.box true zBl, .box true zGf, .box true zEj, .arr true yR, .arr true zI], [(6, none, yR, false), (7, none, zI, false)]⟩
def yCe : zF := ⟨[(2, .c (.lit (.ptr 1001000 0))), (3, .c (.lit (.ptr 1001001 0))), (4, .c (.lit (.ptr 1001002 0))), (6, .c (.lit (.osl 1001003 none))), (7, .c (.lit (.osl 1001004 none)))], [.box true zBl, .box true zGf, .box true zEj, .arr true yR, .arr true zI], []⟩
def qVw (f : qDc) (d : qS1.den) : Option qAy := (zC3 (zAn (f d.1.2.2.2.2.2.1.1 d.1.2.2.2.2.2.2.1.1 d.1.2.2.2.2.2.2.2.1.1) d.2.1) d.2.2.1) d.2.2.2.1.1 d.2.2.2.1.2.1 d.2.2.2.1.2.2.1 d.2.2.2.2.1 d.2.2.2.2.2.1
def qKe : qG := ⟨qS1, [(.exit 0, yCe)], qAy, fun k d => qVw (zOk k k) d, fun b x _ K => K (.exit 0) (zT b yCe (((), (), (), (), (), ()), ((zPt x ()), (vG2 x ()), (x.2.2.2.2.2.2.2.2.2.2.2.2.2.2.2.2.1, x.2.2.2.2.2.2.2.2.2.2.2.2.2.2.2.2.2.1, x.2.2.2.2.2.2.2.2.2.2.2.2.2.2.2.2.2.2.1, ()), x.2.2.2.2.2.2.2.2.2.2.2.2.2.2.2.2.2.2.2.1, x.2.2.2.2.2.2.2.2.2.2.2.2.2.2.2.2.2.2.2.2, ())))⟩
def yQy : qC := ⟨prog, fun _ => false, qL [zS1, qIu, qPy, zJb, qL7, zYf]⟩
def yC4 : qA := ⟨[], [(9, qKe)], false⟩
theorem yAz : qJ yQy := zN zM ⟨yB9, vFo, vJj, qD3, vH4, qVs, trivial⟩
theorem yZt : qE prog 1000 0 66 (zZ (qD f49) 0) qKe := lp (A := yC4) qKe (fun d => (zPt d.2.1 (zFu d.2.2.1 (d.2.2.2.1.1, d.2.2.2.1.2.1, d.2.2.2.1.2.2.1, d.2.2.2.2.1, d.2.2.2.2.2.1)))) qVw zOk zOe yAz zL
def yGy : Nat × zJ := zR 49 [.agg zBx, .agg zRg] (.tup [(true, zG7), (false, [.own yR])]) (fun k d => (qWy (zJy k) d)) (fun x => (zQv x ()))
theorem yVt : zK prog yGy := fA (rs := .tup [(true, zG7), (false, [.own yR])]) f49 yC4 (fun d => (zQl d)) yAz (loops1 yZt)
def yMj : Nat × zJ := wU 86 [.ptr true zGl, .agg [.int .i64, .int .i64, .int .i64, .int .i64, .int .i64, .int .i64]] (.c (.int .i64)) [vT] (fun k d => yB5 k (zBa d) (yDw d)) (fun x => (x.1, (zAb x.2 ())))
theorem vAg : zK prog yMj := fX (rs := .c (.int .i64)) (os := [vT]) f86 ⟨[], [], true⟩ 1 (fun d => (d.1, (zBu d))) (zN (l := [jV, qId, qLn, zP0]) zM ⟨zA3, yA2, qXo, zZh, trivial⟩) zL
def qT0 : Nat × zJ := wU 87 [.ptr true zGl, .agg vP] (.c (.int .i64)) [vT] (fun k d => zYk k (zBa d) (zMq d)) (fun x => (x.1, (zAb x.2 ())))
theorem vCh : zK prog qT0 := fX (rs := .c (.int .i64)) (os := [vT]) f87 ⟨[], [], true⟩ 1 (fun d => (d.1, (zBu d))) (zN (l := [qDd, zC7, qBf, jV, qA6, qD0, qJr, qG7]) zM ⟨yLp, zIp, qTc, zA3, qPe, qY5, yLi, yCs, trivial⟩) zL
def yF6 : Nat × zJ := wU 88 [.ptr true zGl, .agg vP] (.c (.int .i64)) [vT] (fun k d => zWo k (zBa d) (zMq d)) (fun x => (x.1, (zAb x.2 ())))
theorem yQq : zK prog yF6 := fX (rs := .c (.int .i64)) (os := [vT]) f88 ⟨[], [], true⟩ 1 (fun d => (d.1, (zBu d))) (zN (l := [zCd, qK5, jV]) zM ⟨zEs, qSc, zA3, trivial⟩) zL
def qXr : Nat × zJ := wU 89 [.ptr true zGl, .c (.p (.int .i64)), .c (.p (.int .i64))] (.c (.int .i64)) [vT] (fun k d => qYj k (zBa d) d.2.2.2.2.2.2.2.2.2.2.2.2.2.2.2.2.2.2.1 d.2.2.2.2.2.2.2.2.2.2.2.2.2.2.2.2.2.2.2.1) (fun x => (x.1, (zAb x.2 ())))
theorem yUc : zK prog qXr := fX (rs := .c (.int .i64)) (os := [vT]) f89 ⟨[], [], true⟩ 1 (fun d => (d.1, (zBu d))) (zN (l := [zI6, jV, qMp, zHk, zFf, zCd]) zM ⟨zTd, zA3, yJr, zVx, zOq, zEs, trivial⟩) zL
def yL1 : Nat × zJ := wU 90 [.ptr true zGl, .c (.p (.int .i64)), .c (.p (.int .i64)), .c (.p (.int .i64))] (.c (.int .i64)) [vT] (fun k d => zJh k (zBa d) d.2.2.2.2.2.2.2.2.2.2.2.2.2.2.2.2.2.2.1 d.2.2.2.2.2.2.2.2.2.2.2.2.2.2.2.2.2.2.2.1 d.2.2.2.2.2.2.2.2.2.2.2.2.2.2.2.2.2.2.2.2.1) (fun x => (x.1, (zAb x.2 ())))
theorem vEc : zK prog yL1 := fX (rs := .c (.int .i64)) (os := [vT]) f90 ⟨[], [], true⟩ 1 (fun d => (d.1, (zBu d))) (zN (l := [jV, qNi, qDv, qFx, zCd]) zM ⟨zA3, qP6, yFg, qXc, zEs, trivial⟩) zL
def qVz : zF := ⟨[(0, .c (.lit (.ptr 1001000 0))), (7, .c (.lit (.osl 1001001 none))), (8, .c (.lit (.ptr 1001002 0))), (40, .c (.dat true (.sl (.int .i64)))), (41, .c (.int .i64)), (42, .c (.int .i64))], [.box true qFh, .arr true (.int .i64), .box true zG3, .arr true yI, .mat, .arr true (.int .i64), .mat], []⟩
def qWn : zF := ⟨[(0, .c (.lit (.ptr 1001000 0))), (7, .c (.lit (.osl 1001001 none))), (8, .c (.lit (.ptr 1001002 0)))], [.box true qFh, .arr true (.int .i64), .box true zG3, .arr true yI, .mat, .arr true (.int .i64), .mat], []⟩
def qYa : zF := ⟨[(0, .c (.lit (.ptr 1001000 0))), (6, .c (.int .i64))], [.box true qFh], []⟩
def yOp (f : qIj) (d : qVz.den) : Option qAj := f d.1.2.2.2.1.1 d.1.2.2.2.2.1.1 d.1.2.2.2.2.2.1.1 (zBa d.2.1) d.2.2.1 d.2.2.2.2.1 d.2.2.2.2.2.1 d.2.2.2.2.2.2.1 d.2.2.2.2.2.2.2.1
def qEs : qG := ⟨qVz, [(.exit 0, qWn), (.ret, qYa)], qAj, fun k d => yOp (zE9 k k) d, fun b x _ K => match x with | .inl x => K (.exit 0) (zT b qWn (((), (), (), ()), ((yT x.1 ()), x.2.1, (), x.2.2.1, x.2.2.2.1, x.2.2.2.2.1, x.2.2.2.2.2, ()))) | .inr x => K .ret (zT b qYa (((), (x.1, ()), ()), ((yT x.2 ()), ())))⟩
def yR3 : qC := ⟨prog, fun _ => false, qL [zI6, jV, zHk, zCd, zFf]⟩
def yJm : qA := ⟨[], [(6, qEs)], true⟩
theorem yFp : qJ yR3 := zN zM ⟨zTd, zA3, zVx, zEs, zOq, trivial⟩
theorem yU3 : qE prog 1000 1 81 (zZ (qD f91) 0) qEs := lp (A := yJm) qEs (fun d => match d with | .inl d => .inl ((zBa d.2.1), d.2.2.1, d.2.2.2.2.1, d.2.2.2.2.2.1, d.2.2.2.2.2.2.1, d.2.2.2.2.2.2.2.1) | .inr d => .inr (d.1.2.1.1, (zBa d.2.1))) yOp zE9 zLa yFp zL
def yMa : Nat × zJ := wU 91 [.ptr true zGl, .c (.p (.int .i64)), .c (.p (.int .i64))] (.c (.int .i64)) [vT] (fun k d => zYt k (zBa d) d.2.2.2.2.2.2.2.2.2.2.2.2.2.2.2.2.2.2.1 d.2.2.2.2.2.2.2.2.2.2.2.2.2.2.2.2.2.2.2.1) (fun x => (x.1, (zAb x.2 ())))
theorem vIa : zK prog yMa := fX (rs := .c (.int .i64)) (os := [vT]) f91 yJm 1 (fun d => (d.1, (zBu d))) yFp (loops1 yU3)
def yA5 : Nat × zJ := wU 48 [.ptr true zGl, .agg vP] (.c (.int .i64)) [vT] (fun k d => zWp k (zBa d) (zMq d)) (fun x => (x.1, (zAb x.2 ())))
theorem vJh : zK prog yA5 := fX (rs := .c (.int .i64)) (os := [vT]) f48 ⟨[], [], true⟩ 1 (fun d => (d.1, (zBu d))) (zN (l := [yMj, qT0, yF6, qXr, yL1, yMa]) zM ⟨vAg, vCh, yQq, yUc, vEc, vIa, trivial⟩) zL
def yDq : Nat × zJ := zR 20 [.agg [.int .i64, .dat true y0q, .int .i64, .int .i64, .int .i64], .agg zRg, .agg qBx] (.tup [(true, zG7), (false, [.own yR]), (false, qX)]) (fun k d => zYy k (vA d) (zF3 d) (qPp d)) (fun x => (zBq x.1 (x.2.1, x.2.2, ())))
theorem vFi : zK prog yDq := fA (rs := .tup [(true, zG7), (false, [.own yR]), (false, qX)]) f20 ⟨[], [], true⟩ (fun d => ((vK d), d.2.2.2.2.2.2.2.2.2.2.2.1, d.2.2.2.2.2.2.2.2.2.2.2.2.1)) (zN (l := [R9q, yNp, qBf, yOb, yGy, zYf, zE6, qE9, yA5]) zM ⟨F9q, vB2, qTc, vDu, yVt, qVs, zN2, yC6, vJh, trivial⟩) zL
def qFn : Nat × zJ := zR 42 [.agg [.int .i64, .int .i64], .c (.int .i64)] (.agg [.int .i64, .int .i64]) (fun k d => zTp k d.1 d.2.1 d.2.2.1) (fun x => (x.1, x.2, ()))
theorem yS6 : zK prog qFn := fA (rs := .agg [.int .i64, .int .i64]) f42 ⟨[], [], false⟩ (fun d => (d.1, d.2.1)) (zN (l := []) zM trivial) zL
def yL5 : zF := ⟨[(0, .c (.dat false (.int .i64))), (4, .c (.lit (.ptr 1001000 0))), (5, .c (.int .i64))], [.box true [.int .i64, .int .i64]], []⟩
def yG5 : zF := ⟨[(4, .c (.lit (.ptr 1001000 0)))], [.box true [.int .i64, .int .i64]], []⟩
def qQl (f : qM9) (d : yL5.den) : Option vQ := f d.1.1.1 d.1.2.2.1.1 d.2.1.1 d.2.1.2.1
def qMe : qG := ⟨yL5, [(.exit 0, yG5)], vQ, fun k d => qQl (zRe k k) d, fun b x _ K => K (.exit 0) (zT b yG5 (((), ()), ((x.1, x.2, ()), ())))⟩
def yTp : qC := ⟨prog, fun _ => false, qL [qFn]⟩
def yL7 : qA := ⟨[], [(3, qMe)], false⟩
theorem qUm : qJ yTp := zN zM ⟨yS6, trivial⟩
theorem vEe : qE prog 1000 0 32 (zZ (qD f17) 0) qMe := lp (A := yL7) qMe (fun d => (d.2.1.1, d.2.1.2.1)) qQl zRe zKw qUm zL
def qO6 : Nat × zJ := zR 17 [.c (.dat false (.int .i64))] (.tup [(false, qX), (false, [.bool])]) (fun k d => zP6 k d.1) (fun x => (x.1, x.2, ()))
theorem vA1 : zK prog qO6 := fA (rs := .tup [(false, qX), (false, [.bool])]) f17 yL7 (fun d => (d.1, d.2.1)) qUm (loops1 vEe)
def qB2 : Nat × zJ := zR 145 [.agg vP, .c (.int .i64)] (.c (.bool)) (fun k d => (zCr (qDm k) d)) (fun x => (x, ()))
theorem yX1 : zK prog qB2 := fA (rs := .c (.bool)) f145 ⟨[], [], false⟩ (fun d => d.1) (zN (l := []) zM trivial) zL
def yFe : zF := ⟨[(0, .c (.dat false zI)), (1, .c (.int .i64)), (5, .c (.lit (.osl 1001000 none))), (6, .c (.int .i64))], [.arr true zI], [(5, none, zI, false)]⟩
def qUv : zF := ⟨[(5, .c (.lit (.osl 1001000 none)))], [.arr true zI], []⟩
def yKu (f : qCg) (d : yFe.den) : Option zV0 := f d.1.1.1 d.1.2.1.1 d.1.2.2.2.1.1 d.2.1
def qOp : qG := ⟨yFe, [(.exit 0, qUv)], zV0, fun k d => yKu (zQ2 k k) d, fun b x _ K => K (.exit 0) (zT b qUv (((), ()), (x, ())))⟩
def vGz : qC := ⟨prog, fun _ => false, qL [qB2]⟩
def yE6 : qA := ⟨[], [(3, qOp)], false⟩
theorem yEk : qJ vGz := zN zM ⟨yX1, trivial⟩
theorem yUa : qE prog 1000 0 27 (zZ (qD f79) 0) qOp := lp (A := yE6) qOp (fun d => d.2.1) yKu zQ2 zJr yEk zL
def qDw : Nat × zJ := zR 79 [.c (.dat false zI), .c (.int .i64)] (.c (.own zI)) (fun k d => zS9 k d.1 d.2.1) (fun x => (x, ()))
theorem vCb : zK prog qDw := fA (rs := .c (.own zI)) f79 yE6 (fun d => d.1) yEk (loops1 yUa)
def yGp : zF := ⟨[(0, .c (.dat false zI)), (1, .c (.int .i64)), (5, .c (.lit (.osl 1001000 none))), (6, .c (.int .i64))], [.arr true zI], [(5, none, zI, false)]⟩
def qSs : zF := ⟨[(5, .c (.lit (.osl 1001000 none)))], [.arr true zI], []⟩
def yB1 (f : qIe) (d : yGp.den) : Option zS6 := f d.1.1.1 d.1.2.1.1 d.1.2.2.2.1.1 d.2.1
def qIp : qG := ⟨yGp, [(.exit 0, qSs)], zS6, fun k d => yB1 (zRo k k) d, fun b x _ K => K (.exit 0) (zT b qSs (((), ()), (x, ())))⟩
def yWl : qC := ⟨prog, fun _ => false, qL []⟩
def yHa : qA := ⟨[], [(3, qIp)], false⟩
theorem yI9 : qJ yWl := zN zM trivial
theorem vEm : qE prog 1000 0 28 (zZ (qD f59) 0) qIp := lp (A := yHa) qIp (fun d => d.2.1) yB1 zRo zLr yI9 zL
def qHm : Nat × zJ := zR 59 [.c (.dat false zI), .c (.int .i64)] (.c (.own zI)) (fun k d => zTv k d.1 d.2.1) (fun x => (x, ()))
theorem yP1 : zK prog qHm := fA (rs := .c (.own zI)) f59 yHa (fun d => d.1) yI9 (loops1 vEm)
def yAf : zF := ⟨[(5, .c (.lit (.osl 1001000 none))), (6, .c (.lit (.osl 1001001 none))), (7, .c (.int .i64)), (8, .c (.lit (.osl 1001002 none))), (9, .c (.bool)), (10, .c (.int .i64))], [.arr true zI, .arr true zI, .arr true zI], []⟩
def yBa : zF := ⟨[(5, .c (.lit (.osl 1001000 none))), (6, .c (.lit (.osl 1001001 none))), (7, .c (.int .i64)), (8, .c (.lit (.osl 1001002 none))), (9, .c (.bool))], [.arr true zI, .arr true zI, .arr true zI], []⟩
def yFr (f : qHq) (d : yAf.den) : Option zXr := f d.1.2.2.1.1 d.1.2.2.2.2.1.1 d.1.2.2.2.2.2.1.1 d.2.1 d.2.2.1 d.2.2.2.1
def qNx : qG := ⟨yAf, [(.exit 2, yBa)], zXr, fun k d => yFr (zOd k k) d, fun b x _ K => K (.exit 2) (zT b yBa (((), (), (x.1, ()), (), (x.2.1, ()), ()), (x.2.2.1, x.2.2.2.1, x.2.2.2.2, ())))⟩
def yOa : zF := ⟨[(5, .c (.lit (.osl 1001000 none))), (6, .c (.lit (.osl 1001001 none))), (7, .c (.int .i64))], [.arr true zI, .arr true zI], [(6, none, zI, false)]⟩
def yEr : zF := ⟨[(6, .c (.lit (.osl 1001000 none)))], [.arr true zI], []⟩
def yMk (f : qLg) (d : yOa.den) : Option zS7 := f d.1.2.2.1.1 d.2.1 d.2.2.1
def qL6 : qG := ⟨yOa, [(.exit 0, yEr)], zS7, fun k d => yMk (zR9 k k) d, fun b x _ K => K (.exit 0) (zT b yEr (((), ()), (x, ())))⟩
def vE4 : qC := ⟨prog, fun t => [52].any (Nat.beq t), qL [qDw, qHm]⟩
def qFk : qA := ⟨[], [(9, qNx), (4, qL6)], false⟩
theorem qC6 : qJ vE4 := yBc (l := [qDw, qHm]) (eqT := fun t => [52].any (Nat.beq t)) (vAj (fun t h => vCj (p := fun t => prog.keyTypeAt 8 t && !prog.eqGuardType prog.depth t) (l := [52]) (List.forall_mem_cons.2 ⟨by kernel_rfl, List.forall_mem_nil _⟩) t h)) zM ⟨vCb, yP1, trivial⟩
theorem yXz : qE prog 1000 0 61 (zZ (zZ (qD f43) 0) 0) qNx := lp (A := qFk) qNx (fun d => (d.1.2.2.1.1, d.1.2.2.2.2.1.1, d.2.1, d.2.2.1, d.2.2.2.1)) yFr zOd zLz qC6 zL
theorem yUf : qE prog 1000 0 61 (zZ (qD f43) 0) qL6 := lp (A := qFk) qL6 (fun d => d.2.1) yMk zR9 zJt qC6 (loops1 yXz)
def qPt : Nat × zJ := zR 43 [.c (.dat false zI), .c (.int .i64)] (.c (.own zI)) (fun k d => zXm k d.1 d.2.1) (fun x => (x, ()))
theorem yXa : zK prog qPt := fA (rs := .c (.own zI)) f43 qFk (fun d => d.1) qC6 (loops1 yUf)
def zSq : Nat × zJ := zR 139 [.agg wC, .agg vP] (.c (.bool)) (fun k d => (zC3 (qAt k) d)) (fun x => (x, ()))
theorem yLl : zK prog zSq := fA (rs := .c (.bool)) f139 ⟨[], [], false⟩ (fun d => d.1) (zN (l := []) zM trivial) zL
def yNo : zF := ⟨[(1, .c (.dat false zI)), (2, .c (.lit (.ptr 1001000 0))), (5, .c (.int .i64))], [.box true jF], []⟩
def yLq : zF := ⟨[(1, .c (.dat false zI))], [], []⟩
def yJp : zF := ⟨[(4, .c (.bool))], [], []⟩
def qZz (f : qFm) (d : yNo.den) : Option zZy := (yZ (f d.1.1.1 d.1.2.2.1.1) d.2.1)
def qBy : qG := ⟨yNo, [(.exit 0, yLq), (.ret, yJp)], zZy, fun k d => qZz (zPc k k) d, fun b x _ K => match x with | .inl x => K (.exit 0) (zT b yLq (((x, ()), ()), ())) | .inr x => K .ret (zT b yJp (((x, ()), ()), ()))⟩
def vJe : qC := ⟨prog, fun _ => false, qL [zSq]⟩
def qZv : qA := ⟨[], [(2, qBy)], false⟩
theorem yNh : qJ vJe := zN zM ⟨yLl, trivial⟩
theorem yP4 : qE prog 1000 0 22 (zZ (qD f146) 0) qBy := lp (A := qZv) qBy (fun d => match d with | .inl d => .inl d.1.1.1 | .inr d => .inr d.1.1.1) qZz zPc zKe yNh zL
def zVm : Nat × zJ := zR 146 [.agg wC, .c (.dat false zI)] (.c (.bool)) (fun k d => (zAn (zRa k) d)) (fun x => (x, ()))
theorem qYd : zK prog zVm := fA (rs := .c (.bool)) f146 qZv (fun d => d.1) yNh (loops1 yP4)
def qT7 : zF := ⟨[(0, .c (.dat false (.sl (.int .i64)))), (3, .c (.lit (.osl 1001000 none))), (4, .c (.int .i64))], [.mat], [(3, none, (.sl (.int .i64)), true)]⟩
def yFk : zF := ⟨[(3, .c (.lit (.osl 1001000 none)))], [.mat], []⟩
def yBm (f : qIz) (d : qT7.den) : Option (List (List Int)) := f d.1.1.1 d.1.2.2.1.1 d.2.1
def qPu : qG := ⟨qT7, [(.exit 0, yFk)], (List (List Int)), fun k d => yBm (zQa k k) d, fun b x _ K => K (.exit 0) (zT b yFk (((), ()), (x, ())))⟩
def yVz : qC := ⟨prog, fun _ => false, qL []⟩
def qTr : qA := ⟨[18, 19], [(3, qPu)], false⟩
theorem qVh : qJ yVz := zN zM trivial
theorem yYe : qE prog 1000 0 21 (zZ (qD f202) 0) qPu := lp (A := qTr) qPu (fun d => d.2.1) yBm zQa zL3 qVh zL
def yAt : Nat × zJ := zR 202 [.c (.dat false (.sl (.int .i64)))] (.c (.mat)) (fun k d => zRk k d.1) (fun x => (x, ()))
theorem vJb : zK prog yAt := fA (rs := .c (.mat)) f202 qTr (fun d => d.1) qVh (loops1 yYe)
def qDq : Nat × zJ := zR 147 [.agg wC] (.agg zZq) (fun k d => (yZ (zZe k) d)) (fun x => (zE3 x ()))
theorem vCa : zK prog qDq := fA (rs := .agg zZq) f147 ⟨[], [], false⟩ (fun d => (zFt d)) (zN (l := [yAt]) zM ⟨vJb, trivial⟩) zL
def yE4 : zF := ⟨[(0, .c (.dat false zI)), (1, .c (.int .i64)), (6, .c (.int .i64)), (7, .c (.int .i64)), (8, .c (.int .i64))], [], []⟩
def yJj : zF := ⟨[(6, .c (.int .i64)), (7, .c (.int .i64))], [], []⟩
def yLj (f : qHf) (d : yE4.den) : Option vQ := f d.1.1.1 d.1.2.1.1 d.1.2.2.1.1 d.1.2.2.2.1.1 d.1.2.2.2.2.1.1
def qBi : qG := ⟨yE4, [(.exit 0, yJj)], vQ, fun k d => yLj (zOv k k) d, fun b x _ K => K (.exit 0) (zT b yJj (((x.1, ()), (x.2, ()), ()), ()))⟩
def vDg : qC := ⟨prog, fun _ => false, qL []⟩
def qSy : qA := ⟨[], [(3, qBi)], false⟩
theorem yAg : qJ vDg := zN zM trivial
theorem vGd : qE prog 1000 0 46 (zZ (qD f203) 0) qBi := lp (A := qSy) qBi (fun d => (d.1.1.1, d.1.2.1.1)) yLj zOv zJz yAg zL
def zU2 : Nat × zJ := zR 203 [.c (.dat false zI), .c (.int .i64)] (.tup [(false, qX), (false, qX)]) (fun k d => zS0 k d.1 d.2.1) (fun x => (x.1, x.2, ()))
theorem yLx : zK prog zU2 := fA (rs := .tup [(false, qX), (false, qX)]) f203 qSy (fun d => (d.1, d.2.1)) yAg (loops1 vGd)
def qLp : Nat × zJ := zR 149 [.c (.dat false zI), .c (.int .i64)] (.c (.int .i64)) (fun k d => qAc k d.1 d.2.1) (fun x => (x, ()))
theorem yTa : zK prog qLp := fA (rs := .c (.int .i64)) f149 ⟨[], [], false⟩ (fun d => d.1) (zN (l := [zU2]) zM ⟨yLx, trivial⟩) zL
def zSu : Nat × zJ := zR 148 [.agg zCa, .c (.int .i64)] (.c (.int .i64)) (fun k d => (yZ (zJ6 k) d)) (fun x => (x, ()))
theorem yHq : zK prog zSu := fA (rs := .c (.int .i64)) f148 ⟨[], [], false⟩ (fun d => d.1) (zN (l := []) zM trivial) zL
def yO0 : zF := ⟨[(0, .c (.dat false zI)), (1, .c (.int .i64)), (2, .c (.int .i64)), (7, .c (.int .i64)), (8, .c (.int .i64))], [], []⟩
def qY2 : zF := ⟨[(7, .c (.int .i64))], [], []⟩
def yBq (f : qJw) (d : yO0.den) : Option Int := f d.1.1.1 d.1.2.1.1 d.1.2.2.1.1 d.1.2.2.2.1.1 d.1.2.2.2.2.1.1
def qGg : qG := ⟨yO0, [(.exit 0, qY2)], Int, fun k d => yBq (zRq k k) d, fun b x _ K => K (.exit 0) (zT b qY2 (((x, ()), ()), ()))⟩
def vBi : qC := ⟨prog, fun _ => false, qL []⟩
def qQ0 : qA := ⟨[], [(3, qGg)], false⟩
theorem qQb : qJ vBi := zN zM trivial
theorem vBl : qE prog 1000 0 39 (zZ (qD f204) 0) qGg := lp (A := qQ0) qGg (fun d => d.1.1.1) yBq zRq zLe qQb zL
def zYv : Nat × zJ := zR 204 [.c (.dat false zI), .c (.int .i64), .c (.int .i64)] (.c (.int .i64)) (fun k d => zGz k d.1 d.2.1 d.2.2.1) (fun x => (x, ()))
theorem yM9 : zK prog zYv := fA (rs := .c (.int .i64)) f204 qQ0 (fun d => d.1) qQb (loops1 vBl)
def qIh : Nat × zJ := zR 150 [.c (.dat false zI), .c (.int .i64), .c (.int .i64)] (.c (.int .i64)) (fun k d => zW7 k d.1 d.2.1 d.2.2.1) (fun x => (x, ()))
theorem yQ8 : zK prog qIh := fA (rs := .c (.int .i64)) f150 ⟨[], [], false⟩ (fun d => d.1) (zN (l := [zYv]) zM ⟨yM9, trivial⟩) zL
def yHe : zF := ⟨[(0, .c (.dat false (.sl (.int .i64)))), (1, .c (.int .i64)), (5, .c (.int .i64))], [], []⟩
def yDp : zF := ⟨[], [], []⟩
def qQ4 : zF := ⟨[(4, .c (.bool))], [], []⟩
def yCl (f : qH6) (d : yHe.den) : Option (Unit ⊕ Bool) := f d.1.1.1 d.1.2.1.1 d.1.2.2.1.1
def qD2 : qG := ⟨yHe, [(.exit 0, yDp), (.ret, qQ4)], (Unit ⊕ Bool), fun k d => yCl (zRt k k) d, fun b x _ K => match x with | .inl x => K (.exit 0) (zT b yDp ((), ())) | .inr x => K .ret (zT b qQ4 (((x, ()), ()), ()))⟩
def yW6 : qC := ⟨prog, fun _ => false, qL []⟩
def yIg : qA := ⟨[], [(4, qD2)], false⟩
theorem qTx : qJ yW6 := zN zM trivial
theorem vAd : qE prog 1000 0 22 (zZ (qD f134) 0) qD2 := lp (A := yIg) qD2 (fun d => match d with | .inl d => .inl () | .inr d => .inr d.1.1.1) yCl zRt zNv qTx zL
def qJu : Nat × zJ := zR 134 [.c (.dat false (.sl (.int .i64))), .c (.int .i64)] (.c (.bool)) (fun k d => zQ9 k d.1 d.2.1) (fun x => (x, ()))
theorem ySk : zK prog qJu := fA (rs := .c (.bool)) f134 yIg (fun d => d.1) qTx (loops1 vAd)
def qEh : Nat × zJ := zR 135 [.agg zCa] (.c (.bool)) (fun k d => zX5 k d.1 d.2.1 d.2.2.1) (fun x => (x, ()))
theorem yYh : zK prog qEh := fA (rs := .c (.bool)) f135 ⟨[], [], false⟩ (fun d => d.1) (zN (l := []) zM trivial) zL
def qIq : Nat × zJ := zR 136 [.c (.int .i64)] (.c (.bool)) (fun k d => zSj k d.1) (fun x => (x, ()))
theorem yYd : zK prog qIq := fA (rs := .c (.bool)) f136 ⟨[], [], false⟩ (fun d => d.1) (zN (l := []) zM trivial) zL
def yBt : zF := ⟨[(1, .c (.lit (.ptr 1001000 0))), (3, .c (.int .i64)), (4, .c (.int .i64)), (5, .c (.int .i64))], [.box true jF], []⟩
def yHs : zF := ⟨[(1, .c (.lit (.ptr 1001000 0))), (3, .c (.int .i64)), (4, .c (.int .i64))], [.box true jF], []⟩
def qQe : zF := ⟨[(2, .c (.bool))], [], []⟩
def qT8 (f : qI4) (d : yBt.den) : Option zYs := (yZ (f d.1.2.1.1 d.1.2.2.1.1 d.1.2.2.2.1.1) d.2.1)
def qFb : qG := ⟨yBt, [(.exit 2, yHs), (.ret, qQe)], zYs, fun k d => qT8 (zKc k k) d, fun b x _ K => match x with | .inl x => K (.exit 2) (zT b yHs (((), (x.1, ()), (x.2.1, ()), ()), ((qGc x ()), ()))) | .inr x => K .ret (zT b qQe (((x, ()), ()), ()))⟩
def qSe : zF := ⟨[(1, .c (.lit (.ptr 1001000 0))), (3, .c (.int .i64)), (4, .c (.int .i64))], [.box true jF], []⟩
def qS8 : zF := ⟨[], [], []⟩
def yH4 : zF := ⟨[(2, .c (.bool))], [], []⟩
def qUc (f : qOy) (d : qSe.den) : Option (Unit ⊕ Bool) := (yZ (f d.1.2.1.1 d.1.2.2.1.1) d.2.1)
def qEc : qG := ⟨qSe, [(.exit 0, qS8), (.ret, yH4)], (Unit ⊕ Bool), fun k d => qUc (zNo k k) d, fun b x _ K => match x with | .inl x => K (.exit 0) (zT b qS8 ((), ())) | .inr x => K .ret (zT b yH4 (((x, ()), ()), ()))⟩
def yXc : qC := ⟨prog, fun _ => false, qL [qJu, qEh, qIq]⟩
def qNh : qA := ⟨[], [(10, qFb), (5, qEc)], false⟩
theorem qFt : qJ yXc := zN zM ⟨ySk, yYh, yYd, trivial⟩
theorem vIh : qE prog 1000 0 114 (zZ (zZ (qD f71) 0) 0) qFb := lp (A := qNh) qFb (fun d => match d with | .inl d => .inl (d.1.2.1.1, d.1.2.2.1.1, (zFt d.2.1)) | .inr d => .inr d.1.1.1) qT8 zKc zJ1 qFt zL
theorem vHc : qE prog 1000 0 114 (zZ (qD f71) 0) qEc := lp (A := qNh) qEc (fun d => match d with | .inl d => .inl () | .inr d => .inr d.1.1.1) qUc zNo zLd qFt (loops1 vIh)
def zS2 : Nat × zJ := zR 71 [.agg wC] (.c (.bool)) (fun k d => (yZ (zH0 k) d)) (fun x => (x, ()))
theorem yAp : zK prog zS2 := fA (rs := .c (.bool)) f71 qNh (fun d => d.1) qFt (loops1 vHc)
def qSz : zF := ⟨[(1, .c (.dat false zI)), (2, .c (.lit (.ptr 1001000 0))), (4, .c (.lit (.ptr 1001001 0))), (6, .c (.lit (.ptr 1001002 0))), (7, .c (.int .i64)), (8, .c (.int .i64))], [.box true jI, .box true zF4, .box true zG3, .arr true yI, .mat, .arr true (.int .i64), .mat], []⟩
def yL8 : zF := ⟨[(1, .c (.dat false zI)), (2, .c (.lit (.ptr 1001000 0))), (4, .c (.lit (.ptr 1001001 0))), (6, .c (.lit (.ptr 1001002 0))), (7, .c (.int .i64))], [.box true jI, .box true zF4, .box true zG3, .arr true yI, .mat, .arr true (.int .i64), .mat], []⟩
def yI5 (f : qKy) (d : qSz.den) : Option zUe := (yZ (f d.1.1.1 d.1.2.2.2.2.1.1 d.1.2.2.2.2.2.1.1) d.2.1) d.2.2.2.2.1 d.2.2.2.2.2.1 d.2.2.2.2.2.2.1 d.2.2.2.2.2.2.2.1
def qHi : qG := ⟨qSz, [(.exit 2, yL8)], zUe, fun k d => yI5 (zMy k k) d, fun b x _ K => K (.exit 2) (zT b yL8 (((x.1, ()), (), (), (), (x.2.1, ()), ()), ((zTl x ()), (), (), x.2.2.2.2.2.2.1, x.2.2.2.2.2.2.2.1, x.2.2.2.2.2.2.2.2.1, x.2.2.2.2.2.2.2.2.2, ())))⟩
def yMw : zF := ⟨[(1, .c (.dat false zI)), (2, .c (.lit (.ptr 1001000 0))), (4, .c (.lit (.ptr 1001001 0))), (6, .c (.lit (.ptr 1001002 0))), (7, .c (.int .i64))], [.box true jI, .box true zF4, .box true zG3, .arr true yI, .mat, .arr true (.int .i64), .mat], []⟩
def yKh : zF := ⟨[(2, .c (.lit (.ptr 1001000 0))), (4, .c (.lit (.ptr 1001001 0))), (6, .c (.lit (.ptr 1001002 0)))], [.box true jI, .box true zF4, .box true zG3, .arr true yI, .mat, .arr true (.int .i64), .mat], []⟩
def qVa (f : qF5) (d : yMw.den) : Option zTj := (yZ (f d.1.1.1 d.1.2.2.2.2.1.1) d.2.1) d.2.2.2.2.1 d.2.2.2.2.2.1 d.2.2.2.2.2.2.1 d.2.2.2.2.2.2.2.1
def qIt : qG := ⟨yMw, [(.exit 0, yKh)], zTj, fun k d => qVa (zMz k k) d, fun b x _ K => K (.exit 0) (zT b yKh (((), (), (), ()), ((wD x ()), (), (), x.2.2.2.2.1, x.2.2.2.2.2.1, x.2.2.2.2.2.2.1, x.2.2.2.2.2.2.2, ())))⟩
def vHh : qC := ⟨prog, fun _ => false, qL [zVm, qDq, qLp, zSu, qIh, zS2]⟩
def qO9 : qA := ⟨[], [(9, qHi), (5, qIt)], false⟩
theorem qMy : qJ vHh := zN zM ⟨qYd, vCa, yTa, yHq, yQ8, yAp, trivial⟩
theorem vGe : qE prog 1000 0 84 (zZ (zZ (qD f80) 0) 0) qHi := lp (A := qO9) qHi (fun d => (d.1.1.1, d.1.2.2.2.2.1.1, (wD d.2.1 (d.2.2.2.2.1, d.2.2.2.2.2.1, d.2.2.2.2.2.2.1, d.2.2.2.2.2.2.2.1)))) yI5 zMy zNj qMy zL
theorem vJy : qE prog 1000 0 84 (zZ (qD f80) 0) qIt := lp (A := qO9) qIt (fun d => (wD d.2.1 (d.2.2.2.2.1, d.2.2.2.2.2.1, d.2.2.2.2.2.2.1, d.2.2.2.2.2.2.2.1))) qVa zMz zNt qMy (loops1 vGe)
def qYy : Nat × zJ := zR 80 [.agg zC2, .c (.dat false zI)] (.tup [(true, zAs), (false, qX)]) (fun k d => (zAn (zR4 k) d)) (fun x => (zBg x ()))
theorem vIm : zK prog qYy := fA (rs := .tup [(true, zAs), (false, qX)]) f80 qO9 (fun d => (vA d)) qMy (loops1 vJy)
def yBk : zF := ⟨[(1, .c (.int .i64)), (2, .c (.lit (.ptr 1001000 0))), (5, .c (.int .i64)), (6, .c (.int .i64))], [.box true jF], []⟩
def yA7 : zF := ⟨[(5, .c (.int .i64))], [], []⟩
def qVv (f : qI1) (d : yBk.den) : Option Int := (yZ (f d.1.1.1 d.1.2.2.1.1 d.1.2.2.2.1.1) d.2.1)
def qFf : qG := ⟨yBk, [(.exit 0, yA7)], Int, fun k d => qVv (zMr k k) d, fun b x _ K => K (.exit 0) (zT b yA7 (((x, ()), ()), ()))⟩
def vIb : qC := ⟨prog, fun _ => false, qL []⟩
def yJd : qA := ⟨[], [(3, qFf)], false⟩
theorem qTy : qJ vIb := zN zM trivial
theorem vIu : qE prog 1000 0 28 (zZ (qD f242) 0) qFf := lp (A := yJd) qFf (fun d => d.1.1.1) qVv zMr zJv qTy zL
def qFd : Nat × zJ := zR 242 [.agg wC, .c (.int .i64)] (.c (.int .i64)) (fun k d => (zAn (zYi k) d)) (fun x => (x, ()))
theorem yZa : zK prog qFd := fA (rs := .c (.int .i64)) f242 yJd (fun d => d.1) qTy (loops1 vIu)
def yMm : zF := ⟨[(1, .c (.dat false zI)), (2, .c (.int .i64)), (3, .c (.lit (.ptr 1001000 0))), (7, .c (.int .i64)), (8, .c (.int .i64)), (9, .c (.int .i64)), (10, .c (.int .i64)), (11, .c (.int .i64))], [.box true jF], []⟩
def qUk : zF := ⟨[(2, .c (.int .i64)), (3, .c (.lit (.ptr 1001000 0))), (7, .c (.int .i64)), (8, .c (.int .i64)), (9, .c (.int .i64)), (10, .c (.int .i64))], [.box true jF], []⟩
def yA9 : zF := ⟨[(6, .c (.bool))], [], []⟩
def qVy (f : qG0) (d : yMm.den) : Option zU8 := (yZ (f d.1.1.1 d.1.2.1.1 d.1.2.2.2.1.1 d.1.2.2.2.2.1.1 d.1.2.2.2.2.2.1.1 d.1.2.2.2.2.2.2.1.1 d.1.2.2.2.2.2.2.2.1.1) d.2.1)
def qK0 : qG := ⟨yMm, [(.exit 0, qUk), (.ret, yA9)], zU8, fun k d => qVy (zD2 k k) d, fun b x _ K => match x with | .inl x => K (.exit 0) (zT b qUk (((x.1, ()), (), (x.2.1, ()), (x.2.2.1, ()), (x.2.2.2.1, ()), (x.2.2.2.2.1, ()), ()), ((vBe x ()), ()))) | .inr x => K .ret (zT b yA9 (((x, ()), ()), ()))⟩
def vE5 : qC := ⟨prog, fun _ => false, qL [zU2, qFd, zYv, zSu]⟩
def yCk : qA := ⟨[], [(7, qK0)], false⟩
theorem qU6 : qJ vE5 := zN zM ⟨yLx, yZa, yM9, yHq, trivial⟩
theorem yY1 : qE prog 1000 0 130 (zZ (qD f205) 0) qK0 := lp (A := yCk) qK0 (fun d => match d with | .inl d => .inl (d.1.1.1, d.1.2.2.1.1, d.1.2.2.2.1.1, d.1.2.2.2.2.1.1, d.1.2.2.2.2.2.1.1, (zFt d.2.1)) | .inr d => .inr d.1.1.1) qVy zD2 zLq qU6 zL
def qMn : Nat × zJ := zR 205 [.agg wC, .c (.dat false zI), .c (.int .i64)] (.c (.bool)) (fun k d => (zB4 (zVb k) d)) (fun x => (x, ()))
theorem vDa : zK prog qMn := fA (rs := .c (.bool)) f205 yCk (fun d => d.1) qU6 (loops1 yY1)
def yM4 : zF := ⟨[(1, .c (.dat false zI)), (2, .c (.lit (.ptr 1001000 0))), (5, .c (.lit (.osl 1001001 none))), (6, .c (.int .i64))], [.box true jF, .arr true (.int .i64)], [(5, none, (.int .i64), false)]⟩
def qV5 : zF := ⟨[(5, .c (.lit (.osl 1001000 none)))], [.arr true (.int .i64)], []⟩
def qSx (f : qPh) (d : yM4.den) : Option (List Int) := (yZ (f d.1.1.1 d.1.2.2.2.1.1) d.2.1) d.2.2.1
def qJ1 : qG := ⟨yM4, [(.exit 0, qV5)], (List Int), fun k d => qSx (zHg k k) d, fun b x _ K => K (.exit 0) (zT b qV5 (((), ()), (x, ())))⟩
def yYc : qC := ⟨prog, fun _ => false, qL [qMn]⟩
def qRo : qA := ⟨[], [(3, qJ1)], false⟩
theorem yC0 : qJ yYc := zN zM ⟨vDa, trivial⟩
theorem yQt : qE prog 1000 0 23 (zZ (qD f151) 0) qJ1 := lp (A := qRo) qJ1 (fun d => d.2.1) qSx zHg zKj yC0 zL
def yH0 : Nat × zJ := zR 151 [.agg wC, .c (.dat false zI)] (.c (.own (.int .i64))) (fun k d => (zAn (zWc k) d)) (fun x => (x, ()))
theorem ySi : zK prog yH0 := fA (rs := .c (.own (.int .i64))) f151 qRo (fun d => d.1) yC0 (loops1 yQt)
def qY3 : Nat × zJ := zR 81 [.agg wC, .c (.dat false zI)] (.c (.bool)) (fun k d => (zAn (zSs k) d)) (fun x => (x, ()))
theorem vH6 : zK prog qY3 := fA (rs := .c (.bool)) f81 ⟨[], [], false⟩ (fun d => d.1) (zN (l := [zVm, yH0]) zM ⟨qYd, ySi, trivial⟩) zL
def qI2 : Nat × zJ := zR 44 [.agg zC2, .c (.dat false zI)] (.tup [(true, zAs), (false, [.bool])]) (fun k d => (zAn (zW1 k) d)) (fun x => (zBg x ()))
theorem yVo : zK prog qI2 := fA (rs := .tup [(true, zAs), (false, [.bool])]) f44 ⟨[], [], false⟩ (fun d => (vA d)) (zN (l := [qYy, qY3]) zM ⟨vIm, vH6, trivial⟩) zL
def yLr : zF := ⟨[(3, .c (.lit (.ptr 1001000 0))), (6, .c (.lit (.ptr 1001001 0))), (8, .c (.lit (.osl 1001002 none))), (9, .c (.int .i64))], [.box true jI, .box true zCf, .arr true zI], []⟩
def yJ4 : zF := ⟨[(6, .c (.lit (.ptr 1001000 0)))], [.box true zCf], []⟩
def yKe : zF := ⟨[(6, .c (.lit (.ptr 1001000 0))), (7, .c (.bool))], [.box true zCf], []⟩
def qSu (f : qF8) (d : yLr.den) : Option qAb := (zIu (yZ (f d.1.2.2.2.1.1) d.2.1) d.2.2.1) d.2.2.2.1
def qG8 : qG := ⟨yLr, [(.exit 0, yJ4), (.ret, yKe)], qAb, fun k d => qSu (zPi k k) d, fun b x _ K => match x with | .inl x => K (.exit 0) (zT b yJ4 (((), ()), ((zB3 x ()), ()))) | .inr x => K .ret (zT b yKe (((), (x.1, ()), ()), ((yLn x ()), ())))⟩
def vB9 : qC := ⟨prog, fun _ => false, qL [qPt, qI2]⟩
def qR4 : qA := ⟨[], [(3, qG8)], false⟩
theorem yA3 : qJ vB9 := zN zM ⟨yXa, yVo, trivial⟩
theorem vCl : qE prog 1000 0 37 (zZ (qD f19) 0) qG8 := lp (A := qR4) qG8 (fun d => match d with | .inl d => .inl (zAz d.2.1) | .inr d => .inr (d.1.2.1.1, (zAz d.2.1))) qSu zPi zKa yA3 zL
def yH1 : Nat × zJ := zR 19 [.agg zC2, .c (.dat true zI), .c (.int .i64)] (.tup [(true, zCx), (false, [.bool])]) (fun k d => (zB4 (zU0 k) d)) (fun x => (qAi x ()))
theorem vBs : zK prog yH1 := fA (rs := .tup [(true, zCx), (false, [.bool])]) f19 qR4 (fun d => (zPq d)) yA3 (loops1 vCl)
def yOj : zF := ⟨[(0, .c (.dat false zI)), (1, .c (.int .i64)), (5, .c (.int .i64))], [], []⟩
def yEi : zF := ⟨[], [], []⟩
def yAi : zF := ⟨[(4, .c (.int .i64))], [], []⟩
def yOf (f : qOz) (d : yOj.den) : Option (Unit ⊕ Int) := f d.1.1.1 d.1.2.1.1 d.1.2.2.1.1
def qIw : qG := ⟨yOj, [(.exit 0, yEi), (.ret, yAi)], (Unit ⊕ Int), fun k d => yOf (zNw k k) d, fun b x _ K => match x with | .inl x => K (.exit 0) (zT b yEi ((), ())) | .inr x => K .ret (zT b yAi (((x, ()), ()), ()))⟩
def yWw : qC := ⟨prog, fun _ => false, qL []⟩
def qYw : qA := ⟨[], [(2, qIw)], false⟩
theorem yK6 : qJ yWw := zN zM trivial
theorem vJi : qE prog 1000 0 20 (zZ (qD f63) 0) qIw := lp (A := qYw) qIw (fun d => match d with | .inl d => .inl () | .inr d => .inr d.1.1.1) yOf zNw zMa yK6 zL
def qJ5 : Nat × zJ := zR 63 [.c (.dat false zI), .c (.int .i64)] (.c (.int .i64)) (fun k d => zTm k d.1 d.2.1) (fun x => (x, ()))
theorem vH1 : zK prog qJ5 := fA (rs := .c (.int .i64)) f63 qYw (fun d => d.1) yK6 (loops1 vJi)
def yMb : zF := ⟨[(0, .c (.dat false (.int .i64))), (1, .c (.int .i64)), (5, .c (.int .i64))], [], []⟩
def qTn : zF := ⟨[], [], []⟩
def qZa : zF := ⟨[(4, .c (.bool))], [], []⟩
def qYo (f : qH1) (d : yMb.den) : Option (Unit ⊕ Bool) := f d.1.1.1 d.1.2.1.1 d.1.2.2.1.1
def qM2 : qG := ⟨yMb, [(.exit 0, qTn), (.ret, qZa)], (Unit ⊕ Bool), fun k d => qYo (zOw k k) d, fun b x _ K => match x with | .inl x => K (.exit 0) (zT b qTn ((), ())) | .inr x => K .ret (zT b qZa (((x, ()), ()), ()))⟩
def yU4 : qC := ⟨prog, fun _ => false, qL []⟩
def yIs : qA := ⟨[], [(2, qM2)], true⟩
theorem yC3 : qJ yU4 := zN zM trivial
theorem yTz : qE prog 1000 0 18 (zZ (qD f140) 0) qM2 := lp (A := yIs) qM2 (fun d => match d with | .inl d => .inl () | .inr d => .inr d.1.1.1) qYo zOw zY2 yC3 zL
def qCu : Nat × zJ := zR 140 [.c (.dat false (.int .i64)), .c (.int .i64)] (.c (.bool)) (fun k d => zXq k d.1 d.2.1) (fun x => (x, ()))
theorem vDv : zK prog qCu := fA (rs := .c (.bool)) f140 yIs (fun d => d.1) yC3 (loops1 yTz)
def qJv : Nat × zJ := zR 77 [.agg vP, .agg vP] (.c (.bool)) (fun k d => (zJ3 (zXc k) d)) (fun x => (x, ()))
theorem vCd : zK prog qJv := fA (rs := .c (.bool)) f77 ⟨[], [], false⟩ (fun d => d.1) (zN (l := []) zM trivial) zL
def qCp : Nat × zJ := zR 257 [.c (.int .i64)] (.c (.own (.int .i64))) (fun k d => zWm k d.1) (fun x => (x, ()))
theorem vJr : zK prog qCp := fA (rs := .c (.own (.int .i64))) f257 ⟨[], [], true⟩ (fun d => d.1) (zN (l := []) zM trivial) zL
def yKt : zF := ⟨[(0, .c (.lit (.osl 1001000 none))), (3, .c (.int .i64))], [.arr true (.int .i64)], []⟩
def qV2 : zF := ⟨[(0, .c (.lit (.osl 1001000 none)))], [.arr true (.int .i64)], []⟩
def qXy (f : Int → List Int → Option (List Int)) (d : yKt.den) : Option (List Int) := f d.1.2.1.1 d.2.1
def qMl : qG := ⟨yKt, [(.exit 0, qV2)], (List Int), fun k d => qXy (qHr k k) d, fun b x _ K => K (.exit 0) (zT b qV2 (((), ()), (x, ())))⟩
def vGl : qC := ⟨prog, fun _ => false, qL []⟩
def qQq : qA := ⟨[], [(2, qMl)], true⟩
theorem qVf : qJ vGl := zN zM trivial
theorem yPr : qE prog 1000 0 35 (zZ (qD f258) 0) qMl := lp (A := qQq) qMl (fun d => d.2.1) qXy qHr qS7 qVf zL
def zQg : Nat × zJ := wU 258 [.c (.own (.int .i64))] (.c (.own (.int .i64))) [] (fun k d => zH5 k d.1) (fun x => (x, ()))
theorem qVi : zK prog zQg := fX (rs := .c (.own (.int .i64))) (os := []) f258 qQq 0 (fun d => d.1) qVf (loops1 yPr)
def qSk : zF := ⟨[(1, .c (.int .i64)), (5, .c (.lit (.osl 1001000 none))), (6, .c (.lit (.osl 1001001 none))), (7, .c (.int .i64)), (8, .c (.int .i64))], [.arr true (.int .i64), .arr true (.int .i64)], []⟩
def qTw : zF := ⟨[(1, .c (.int .i64)), (5, .c (.lit (.osl 1001000 none))), (6, .c (.lit (.osl 1001001 none))), (7, .c (.int .i64))], [.arr true (.int .i64), .arr true (.int .i64)], []⟩
def yFi (f : qBp) (d : qSk.den) : Option zZ5 := f d.1.1.1 d.1.2.2.2.1.1 d.1.2.2.2.2.1.1 d.2.1 d.2.2.1
def qFy : qG := ⟨qSk, [(.exit 2, qTw)], zZ5, fun k d => yFi (qCw k k) d, fun b x _ K => K (.exit 2) (zT b qTw (((x.1, ()), (), (), (x.2.1, ()), ()), (x.2.2.1, x.2.2.2, ())))⟩
def qYh : zF := ⟨[(1, .c (.int .i64)), (5, .c (.lit (.osl 1001000 none))), (6, .c (.lit (.osl 1001001 none))), (7, .c (.int .i64))], [.arr true (.int .i64), .arr true (.int .i64)], []⟩
def qT9 : zF := ⟨[(6, .c (.lit (.osl 1001000 none)))], [.arr true (.int .i64)], []⟩
def qTb (f : qNb) (d : qYh.den) : Option (List Int) := f d.1.1.1 d.1.2.2.2.1.1 d.2.1 d.2.2.1
def qEi : qG := ⟨qYh, [(.exit 0, qT9)], (List Int), fun k d => qTb (zTu k k) d, fun b x _ K => K (.exit 0) (zT b qT9 (((), ()), (x, ())))⟩
def yP9 : qC := ⟨prog, fun _ => false, qL [qCp, zQg]⟩
def qBq : qA := ⟨[], [(7, qFy), (4, qEi)], true⟩
theorem qLa : qJ yP9 := zN zM ⟨vJr, qVi, trivial⟩
theorem yVq : qE prog 1000 0 47 (zZ (zZ (qD f234) 0) 0) qFy := lp (A := qBq) qFy (fun d => (d.1.1.1, d.1.2.2.2.1.1, d.2.1, d.2.2.1)) yFi qCw yH7 qLa zL
theorem vA4 : qE prog 1000 0 47 (zZ (qD f234) 0) qEi := lp (A := qBq) qEi (fun d => d.2.1) qTb zTu qVo qLa (loops1 yVq)
def qVb : Nat × zJ := zR 234 [.c (.int .i64), .c (.int .i64)] (.c (.own (.int .i64))) (fun k d => zWi k d.1 d.2.1) (fun x => (x, ()))
theorem yPe : zK prog qVb := fA (rs := .c (.own (.int .i64))) f234 qBq (fun d => d.1) qLa (loops1 vA4)
def qR5 : zF := ⟨[(0, .c (.lit (.osl 1001000 none))), (1, .c (.int .i64)), (5, .c (.int .i64))], [.arr true (.int .i64)], []⟩
def qQp : zF := ⟨[(0, .c (.lit (.osl 1001000 none)))], [.arr true (.int .i64)], []⟩
def yFb (f : Int → Int → List Int → Option (List Int)) (d : qR5.den) : Option (List Int) := f d.1.2.1.1 d.1.2.2.1.1 d.2.1
def qEn : qG := ⟨qR5, [(.exit 0, qQp)], (List Int), fun k d => yFb (zV3 k k) d, fun b x _ K => K (.exit 0) (zT b qQp (((), ()), (x, ())))⟩
def vBc : qC := ⟨prog, fun _ => false, qL [zQg]⟩
def qX0 : qA := ⟨[], [(2, qEn)], true⟩
theorem qTg : qJ vBc := zN zM ⟨qVi, trivial⟩
theorem yP6 : qE prog 1000 0 23 (zZ (qD f235) 0) qEn := lp (A := qX0) qEn (fun d => d.2.1) yFb zV3 yMq qTg zL
def yAm : Nat × zJ := wU 235 [.c (.own (.int .i64)), .c (.p (.int .i64))] (.c (.own (.int .i64))) [] (fun k d => zVs k d.1 d.2.1) (fun x => (x, ()))
theorem yVa : zK prog yAm := fX (rs := .c (.own (.int .i64))) (os := []) f235 qX0 0 (fun d => d.1) qTg (loops1 yP6)
def qSn : zF := ⟨[(0, .c (.lit (.osl 1001000 none))), (1, .c (.int .i64)), (6, .c (.int .i64)), (7, .c (.int .i64))], [.arr true (.int .i64)], []⟩
def yJ2 : zF := ⟨[(0, .c (.lit (.osl 1001000 none)))], [.arr true (.int .i64)], []⟩
def qRs (f : qPj) (d : qSn.den) : Option (List Int) := f d.1.2.1.1 d.1.2.2.1.1 d.1.2.2.2.1.1 d.2.1
def zT7 : qG := ⟨qSn, [(.exit 0, yJ2)], (List Int), fun k d => qRs (zR6 k k) d, fun b x _ K => K (.exit 0) (zT b yJ2 (((), ()), (x, ())))⟩
def yAo : zF := ⟨[(0, .c (.lit (.osl 1001000 none))), (9, .c (.int .i64))], [.arr true (.int .i64)], []⟩
def yBe : zF := ⟨[(0, .c (.lit (.osl 1001000 none)))], [.arr true (.int .i64)], []⟩
def yHj : zF := ⟨[(4, .c (.int .i64)), (5, .c (.bool))], [], []⟩
def yI3 (f : qIb) (d : yAo.den) : Option ((List Int) ⊕ wF) := f d.1.2.1.1 d.2.1
def zWt : qG := ⟨yAo, [(.exit 2, yBe), (.ret, yHj)], ((List Int) ⊕ wF), fun k d => yI3 (zMb k k) d, fun b x _ K => match x with | .inl x => K (.exit 2) (zT b yBe (((), ()), (x, ()))) | .inr x => K .ret (zT b yHj (((x.1, ()), (x.2, ()), ()), ()))⟩
def vGc : qC := ⟨prog, fun _ => false, qL []⟩
def qC5 : qA := ⟨[], [(3, zT7), (9, zWt)], true⟩
theorem qLm : qJ vGc := zN zM trivial
theorem yZh : qE prog 1000 0 66 (zZ (qD f236) 0) zT7 := lp (A := qC5) zT7 (fun d => d.2.1) qRs zR6 qVp qLm zL
theorem vDe : qE prog 1000 0 66 (zZ (qD f236) 1) zWt := lp (A := qC5) zWt (fun d => match d with | .inl d => .inl d.2.1 | .inr d => .inr (d.1.1.1, d.1.2.1.1)) yI3 zMb yIr qLm zL
def yBd : Nat × zJ := wU 236 [.c (.own (.int .i64)), .c (.p (.int .i64))] (.tup [(false, qX), (false, [.bool])]) [] (fun k d => qAk k d.1 d.2.1) (fun x => (x.1, x.2, ()))
theorem vBq : zK prog yBd := fX (rs := .tup [(false, qX), (false, [.bool])]) (os := []) f236 qC5 0 (fun d => (d.1, d.2.1)) qLm (zGk (n := 2) (by kernel_rfl) fun i hi => match i, hi with | 0, _ => ⟨zT7, by kernel_rfl, yZh⟩ | 1, _ => ⟨zWt, by kernel_rfl, vDe⟩ | i + 2, hi => absurd hi (by omega))
def qLr : Nat × zJ := zR 195 [.c (.int .i64), .c (.int .i64), .c (.int .i64)] (.tup [(false, qX), (false, [.bool])]) (fun k d => zTr k d.1 d.2.1 d.2.2.1) (fun x => (x.1, x.2, ()))
theorem vA0 : zK prog qLr := fA (rs := .tup [(false, qX), (false, [.bool])]) f195 ⟨[], [], true⟩ (fun d => (d.1, d.2.1)) (zN (l := [qVb, yAm, yBd]) zM ⟨yPe, yVa, vBq, trivial⟩) zL
def qOe : Nat × zJ := zR 196 [.c (.int .i64), .c (.int .i64)] (.tup [(false, qX), (false, [.bool])]) (fun k d => zVq k d.1 d.2.1) (fun x => (x.1, x.2, ()))
theorem yYi : zK prog qOe := fA (rs := .tup [(false, qX), (false, [.bool])]) f196 ⟨[], [], true⟩ (fun d => (d.1, d.2.1)) (zN (l := []) zM trivial) zL
def qTm : zF := ⟨[(0, .c (.dat false y0q)), (1, .c (.dat false (.int .i64))), (2, .c (.dat false (.int .i64))), (8, .c (.int .i64)), (9, .c (.int .i64))], [], []⟩
def qR2 : zF := ⟨[(8, .c (.int .i64))], [], []⟩
def qQm : zF := ⟨[(6, .c (.int .i64)), (7, .c (.bool))], [], []⟩
def qUq (f : qGz) (d : qTm.den) : Option (Int ⊕ wF) := f d.1.1.1 d.1.2.1.1 d.1.2.2.1.1 d.1.2.2.2.1.1 d.1.2.2.2.2.1.1
def qJe : qG := ⟨qTm, [(.exit 0, qR2), (.ret, qQm)], (Int ⊕ wF), fun k d => qUq (zSl k k) d, fun b x _ K => match x with | .inl x => K (.exit 0) (zT b qR2 (((x, ()), ()), ())) | .inr x => K .ret (zT b qQm (((x.1, ()), (x.2, ()), ()), ()))⟩
def yUk : qC := ⟨prog, fun _ => false, qL [qLr, qOe]⟩
def yBy : qA := ⟨[], [(5, qJe)], true⟩
theorem qWi : qJ yUk := zN zM ⟨vA0, yYi, trivial⟩
theorem vJs : qE prog 1000 0 63 (zZ (qD f137) 0) qJe := lp (A := yBy) qJe (fun d => match d with | .inl d => .inl d.1.1.1 | .inr d => .inr (d.1.1.1, d.1.2.1.1)) qUq zSl zNx qWi zL
def qCf : Nat × zJ := zR 137 [.c (.dat false y0q), .c (.dat false (.int .i64)), .c (.dat false (.int .i64))] (.tup [(false, qX), (false, [.bool])]) (fun k d => zWz k d.1 d.2.1 d.2.2.1) (fun x => (x.1, x.2, ()))
theorem ySq : zK prog qCf := fA (rs := .tup [(false, qX), (false, [.bool])]) f137 yBy (fun d => (d.1, d.2.1)) qWi (loops1 vJs)
def qF9 : Nat × zJ := zR 124 [.c (.int .i64)] (.c (.bool)) (fun k d => qD1 k d.1) (fun x => (x, ()))
theorem vAh : zK prog qF9 := fA (rs := .c (.bool)) f124 ⟨[], [], true⟩ (fun d => d.1) (zN (l := [jV]) zM ⟨zA3, trivial⟩) zL
def yNu : zF := ⟨[(0, .c (.dat false (.int .i64))), (1, .c (.lit (.fn 124 []))), (7, .c (.int .i64)), (8, .c (.int .i64))], [], []⟩
def yDr : zF := ⟨[], [], []⟩
def qQy : zF := ⟨[(4, .c (.int .i64))], [], []⟩
def yM7 (f : qHc) (d : yNu.den) : Option (Unit ⊕ Int) := f d.1.1.1 d.1.2.2.1.1 d.1.2.2.2.1.1
def qPa : qG := ⟨yNu, [(.exit 0, yDr), (.ret, qQy)], (Unit ⊕ Int), fun k d => yM7 (zI9 k k) d, fun b x _ K => match x with | .inl x => K (.exit 0) (zT b yDr ((), ())) | .inr x => K .ret (zT b qQy (((x, ()), ()), ()))⟩
def vE7 : qC := ⟨prog, fun _ => false, qL [qF9]⟩
def yO1 : qA := ⟨[], [(2, qPa)], false⟩
theorem yAv : qJ vE7 := zN zM ⟨vAh, trivial⟩
theorem yRn : qE prog 1000 0 19 (zZ (qD f190) 0) qPa := lp (A := yO1) qPa (fun d => match d with | .inl d => .inl () | .inr d => .inr d.1.1.1) yM7 zI9 zJn yAv zL
def yIm : Nat × zJ := zR 190 [.c (.dat false (.int .i64)), .c (.fn 124)] (.c (.int .i64)) (fun k d => qNc k d.1) (fun x => (x, ()))
theorem yYo : zK prog yIm := fA (rs := .c (.int .i64)) f190 yO1 (fun d => d.1) yAv (loops1 yRn)
def qKq : Nat × zJ := zR 123 [.c (.dat false (.int .i64)), .c (.fn 124)] (.c (.bool)) (fun k d => zR5 k d.1) (fun x => (x, ()))
theorem yT4 : zK prog qKq := fA (rs := .c (.bool)) f123 ⟨[], [], false⟩ (fun d => d.1) (zN (l := [yIm]) zM ⟨yYo, trivial⟩) zL
def qEy : Nat × zJ := zR 126 [.c (.int .i64)] (.c (.bool)) (fun k d => qH3 k d.1) (fun x => (x, ()))
theorem yW8 : zK prog qEy := fA (rs := .c (.bool)) f126 ⟨[], [], true⟩ (fun d => d.1) (zN (l := []) zM trivial) zL
def yDs : zF := ⟨[(0, .c (.dat false (.int .i64))), (1, .c (.lit (.fn 126 []))), (7, .c (.int .i64)), (8, .c (.int .i64))], [], []⟩
def qZe : zF := ⟨[], [], []⟩
def yOs : zF := ⟨[(4, .c (.int .i64))], [], []⟩
def qY8 (f : qCb) (d : yDs.den) : Option (Unit ⊕ Int) := f d.1.1.1 d.1.2.2.1.1 d.1.2.2.2.1.1
def qBw : qG := ⟨yDs, [(.exit 0, qZe), (.ret, yOs)], (Unit ⊕ Int), fun k d => qY8 (zHl k k) d, fun b x _ K => match x with | .inl x => K (.exit 0) (zT b qZe ((), ())) | .inr x => K .ret (zT b yOs (((x, ()), ()), ()))⟩
def yPn : qC := ⟨prog, fun _ => false, qL [qEy]⟩
def yMp : qA := ⟨[], [(2, qBw)], false⟩
theorem qRj : qJ yPn := zN zM ⟨yW8, trivial⟩
theorem yUo : qE prog 1000 0 19 (zZ (qD f190) 0) qBw := lp (A := yMp) qBw (fun d => match d with | .inl d => .inl () | .inr d => .inr d.1.1.1) qY8 zHl zNd qRj zL
def qZd : Nat × zJ := zR 190 [.c (.dat false (.int .i64)), .c (.fn 126)] (.c (.int .i64)) (fun k d => qPg k d.1) (fun x => (x, ()))
theorem yY6 : zK prog qZd := fA (rs := .c (.int .i64)) f190 yMp (fun d => d.1) qRj (loops1 yUo)
def qOu : Nat × zJ := zR 123 [.c (.dat false (.int .i64)), .c (.fn 126)] (.c (.bool)) (fun k d => zXf k d.1) (fun x => (x, ()))
theorem vEp : zK prog qOu := fA (rs := .c (.bool)) f123 ⟨[], [], false⟩ (fun d => d.1) (zN (l := [qZd]) zM ⟨yY6, trivial⟩) zL
def yOz : zF := ⟨[(2, .c (.lit (.ptr 1001000 0))), (3, .c (.lit (.ptr 1001001 0))), (28, .c (.dat false (.sl (.int .i64)))), (29, .c (.int .i64)), (30, .c (.int .i64))], [.box true zBl, .box true zCv], []⟩
def yAd : zF := ⟨[], [], []⟩
def qRe : zF := ⟨[(4, .c (.bool))], [], []⟩
def qUh (f : qDi) (d : yOz.den) : Option (Unit ⊕ Bool) := f d.1.2.2.1.1 d.1.2.2.2.1.1 d.1.2.2.2.2.1.1 (vA d.2.1) (vK d.2.2.1)
def qCa : qG := ⟨yOz, [(.exit 0, yAd), (.ret, qRe)], (Unit ⊕ Bool), fun k d => qUh (zGg k k) d, fun b x _ K => match x with | .inl x => K (.exit 0) (zT b yAd ((), ())) | .inr x => K .ret (zT b qRe (((x, ()), ()), ()))⟩
def vDs : qC := ⟨prog, fun _ => false, qL [qKq, zFf, qOu]⟩
def yI7 : qA := ⟨[], [(6, qCa)], true⟩
theorem yLw : qJ vDs := zN zM ⟨yT4, zOq, vEp, trivial⟩
theorem vI8 : qE prog 1000 0 66 (zZ (qD f66) 0) qCa := lp (A := yI7) qCa (fun d => match d with | .inl d => .inl () | .inr d => .inr d.1.1.1) qUh zGg zOo yLw zL
def qMd : Nat × zJ := zR 66 [.agg zBx, .agg zDt] (.c (.bool)) (fun k d => zRf k (vA d) (zF3 d)) (fun x => (x, ()))
theorem yUm : zK prog qMd := fA (rs := .c (.bool)) f66 yI7 (fun d => d.1) yLw (loops1 vI8)
def yEt : zF := ⟨[(0, .c (.dat false zI)), (1, .c (.lit (.fn 194 []))), (5, .c (.int .i64))], [], []⟩
def qTs : zF := ⟨[], [], []⟩
def yIl : zF := ⟨[(4, .c (.bool))], [], []⟩
def yLz (f : qGr) (d : yEt.den) : Option (Unit ⊕ Bool) := f d.1.1.1 d.1.2.2.1.1
def qDk : qG := ⟨yEt, [(.exit 0, qTs), (.ret, yIl)], (Unit ⊕ Bool), fun k d => yLz (zRw k k) d, fun b x _ K => match x with | .inl x => K (.exit 0) (zT b qTs ((), ())) | .inr x => K .ret (zT b yIl (((x, ()), ()), ()))⟩
def vE0 : qC := ⟨prog, fun _ => false, qL [zIe]⟩
def qRm : qA := ⟨[], [(2, qDk)], true⟩
theorem yG4 : qJ vE0 := zN zM ⟨qP3, trivial⟩
theorem vIp : qE prog 1000 0 25 (zZ (qD f193) 0) qDk := lp (A := qRm) qDk (fun d => match d with | .inl d => .inl () | .inr d => .inr d.1.1.1) yLz zRw zTa yG4 zL
def qC3 : Nat × zJ := zR 193 [.c (.dat false zI), .c (.fn 194)] (.c (.bool)) (fun k d => zY4 k d.1) (fun x => (x, ()))
theorem yPl : zK prog qC3 := fA (rs := .c (.bool)) f193 qRm (fun d => d.1) yG4 (loops1 vIp)
def yOy : zF := ⟨[(0, .c (.dat false zI)), (5, .c (.dat false zI)), (6, .c (.int .i64)), (7, .c (.int .i64))], [], []⟩
def yIt : zF := ⟨[(0, .c (.dat false zI))], [], []⟩
def yCt : zF := ⟨[(2, .c (.bool))], [], []⟩
def yL2 (f : qN0) (d : yOy.den) : Option zZx := f d.1.1.1 d.1.2.1.1 d.1.2.2.1.1 d.1.2.2.2.1.1
def qKp : qG := ⟨yOy, [(.exit 0, yIt), (.ret, yCt)], zZx, fun k d => yL2 (zHt k k) d, fun b x _ K => match x with | .inl x => K (.exit 0) (zT b yIt (((x, ()), ()), ())) | .inr x => K .ret (zT b yCt (((x, ()), ()), ()))⟩
def yXx : qC := ⟨prog, fun _ => false, qL [zE6, qC3]⟩
def qTf : qA := ⟨[], [(2, qKp)], false⟩
theorem yJy : qJ yXx := zN zM ⟨zN2, yPl, trivial⟩
theorem vDp : qE prog 1000 0 26 (zZ (qD f130) 0) qKp := lp (A := qTf) qKp (fun d => match d with | .inl d => .inl d.1.1.1 | .inr d => .inr d.1.1.1) yL2 zHt zLi yJy zL
def qRp : Nat × zJ := zR 130 [.c (.dat false zI)] (.c (.bool)) (fun k d => zR1 k d.1) (fun x => (x, ()))
theorem yWm : zK prog qRp := fA (rs := .c (.bool)) f130 qTf (fun d => d.1) yJy (loops1 vDp)
def yKb : zF := ⟨[(0, .c (.dat false (.int .i64))), (3, .c (.int .i64)), (6, .c (.dat false (.int .i64))), (7, .c (.int .i64)), (8, .c (.int .i64))], [], []⟩
def qXi : zF := ⟨[(0, .c (.dat false (.int .i64)))], [], []⟩
def qRu : zF := ⟨[(2, .c (.bool))], [], []⟩
def qZ1 (f : qGd) (d : yKb.den) : Option ((List Int) ⊕ Bool) := f d.1.1.1 d.1.2.1.1 d.1.2.2.1.1 d.1.2.2.2.1.1 d.1.2.2.2.2.1.1
def qBb : qG := ⟨yKb, [(.exit 0, qXi), (.ret, qRu)], ((List Int) ⊕ Bool), fun k d => qZ1 (zPd k k) d, fun b x _ K => match x with | .inl x => K (.exit 0) (zT b qXi (((x, ()), ()), ())) | .inr x => K .ret (zT b qRu (((x, ()), ()), ()))⟩
def yZp : qC := ⟨prog, fun _ => false, qL []⟩
def yH5 : qA := ⟨[], [(3, qBb)], true⟩
theorem qZs : qJ yZp := zN zM trivial
theorem vG7 : qE prog 1000 0 20 (zZ (qD f131) 0) qBb := lp (A := yH5) qBb (fun d => match d with | .inl d => .inl d.1.1.1 | .inr d => .inr d.1.1.1) qZ1 zPd zK1 qZs zL
def yDx : Nat × zJ := zR 131 [.c (.dat false (.int .i64))] (.c (.bool)) (fun k d => zPb k d.1) (fun x => (x, ()))
theorem vHo : zK prog yDx := fA (rs := .c (.bool)) f131 yH5 (fun d => d.1) qZs (loops1 vG7)
def yHw : Nat × zJ := zR 129 [.c (.dat false (.int .i64)), .c (.int .i64)] (.c (.bool)) (fun k d => zZs k d.1 d.2.1) (fun x => (x, ()))
theorem vHp : zK prog yHw := fA (rs := .c (.bool)) f129 ⟨[], [], true⟩ (fun d => d.1) (zN (l := [qEm]) zM ⟨yIa, trivial⟩) zL
def qJ9 : Nat × zJ := zR 127 [.agg vP, .ptr zDt] (.c (.bool)) (fun k d => zS8 k (zAz d) (yUu d)) (fun x => (x, ()))
theorem vEd : zK prog qJ9 := fA (rs := .c (.bool)) f127 ⟨[], [], true⟩ (fun d => d.1) (zN (l := [zWj, jV, yHw]) zM ⟨qMx, zA3, vHp, trivial⟩) zL
def yL6 : zF := ⟨[(0, .c (.dat false zI)), (1, .c (.lit (.fn 127 [1001000]))), (7, .c (.int .i64)), (8, .c (.int .i64))], [.robox zCv], []⟩
def yEb : zF := ⟨[], [], []⟩
def yBb : zF := ⟨[(4, .c (.int .i64))], [], []⟩
def yMr (f : qI9) (d : yL6.den) : Option (Unit ⊕ Int) := (zC3 (f d.1.1.1 d.1.2.2.1.1 d.1.2.2.2.1.1) d.2.1)
def qGx : qG := ⟨yL6, [(.exit 0, yEb), (.ret, yBb)], (Unit ⊕ Int), fun k d => yMr (zHd k k) d, fun b x _ K => match x with | .inl x => K (.exit 0) (zT b yEb ((), ())) | .inr x => K .ret (zT b yBb (((x, ()), ()), ()))⟩
def vDq : qC := ⟨prog, fun _ => false, qL [qJ9]⟩
def yCw : qA := ⟨[], [(2, qGx)], false⟩
theorem qR8 : qJ vDq := zN zM ⟨vEd, trivial⟩
theorem yPy : qE prog 1000 0 19 (zZ (qD f98) 0) qGx := lp (A := yCw) qGx (fun d => match d with | .inl d => .inl () | .inr d => .inr d.1.1.1) yMr zHd zNm qR8 zL
def yOe : Nat × zJ := zR 98 [.c (.dat false zI), .fn 127 [zDt]] (.c (.int .i64)) (fun k d => (zWv (qE5 k) d)) (fun x => (x, ()))
theorem vIy : zK prog yOe := fA (rs := .c (.int .i64)) f98 yCw (fun d => d.1) qR8 (loops1 yPy)
def yNi : Nat × zJ := zR 132 [.c (.dat false zI), .fn 127 [zDt]] (.c (.bool)) (fun k d => (zWv (zX7 k) d)) (fun x => (x, ()))
theorem vHi : zK prog yNi := fA (rs := .c (.bool)) f132 ⟨[], [], false⟩ (fun d => d.1) (zN (l := [yOe]) zM ⟨vIy, trivial⟩) zL
def qF6 : Nat × zJ := zR 67 [.agg zDt] (.c (.bool)) (fun k d => zQn k (vK d)) (fun x => (x, ()))
theorem yY3 : zK prog qF6 := fA (rs := .c (.bool)) f67 ⟨[], [], true⟩ (fun d => d.1) (zN (l := [qRp, yDx, yNi]) zM ⟨yWm, vHo, vHi, trivial⟩) zL
def yJ5 : zF := ⟨[(2, .c (.lit (.ptr 1001000 0))), (3, .c (.lit (.ptr 1001001 0))), (5, .c (.lit (.osl 1001002 none))), (44, .c (.dat false yI)), (45, .c (.int .i64)), (46, .c (.int .i64))], [.box true zBl, .box true zCv, .arr true (.int .i64)], [(5, none, (.int .i64), false)]⟩
def yDi : zF := ⟨[(2, .c (.lit (.ptr 1001000 0))), (3, .c (.lit (.ptr 1001001 0))), (5, .c (.lit (.osl 1001002 none)))], [.box true zBl, .box true zCv, .arr true (.int .i64)], []⟩
def yMg (f : qMi) (d : yJ5.den) : Option zU5 := f d.1.2.2.2.1.1 d.1.2.2.2.2.1.1 d.1.2.2.2.2.2.1.1 (vA d.2.1) (vK d.2.2.1) d.2.2.2.1
def qKr : qG := ⟨yJ5, [(.exit 0, yDi)], zU5, fun k d => yMg (zJk k k) d, fun b x _ K => K (.exit 0) (zT b yDi (((), (), (), ()), ((zBg x.1 ()), (zBq x.2.1 ()), x.2.2, ())))⟩
def yVl : qC := ⟨prog, fun _ => false, qL [jV, zPx, qMd, qF6, zJc, zS1]⟩
def qXj : qA := ⟨[], [(5, qKr)], true⟩
theorem qSb : qJ yVl := zN zM ⟨zA3, yO5, yUm, yY3, qDr, yB9, trivial⟩
theorem vG4 : qE prog 1000 0 92 (zZ (qD f26) 0) qKr := lp (A := qXj) qKr (fun d => ((vA d.2.1), (vK d.2.2.1), d.2.2.2.1)) yMg zJk zMt qSb zL
def yOk : Nat × zJ := zR 26 [.agg zBx, .agg zDt] (.c (.bool)) (fun k d => zQr k (vA d) (zF3 d)) (fun x => (x, ()))
theorem yZi : zK prog yOk := fA (rs := .c (.bool)) f26 qXj (fun d => d.1) qSb (loops1 vG4)
def qZ9 : zF := ⟨[(2, .c (.lit (.ptr 1001000 0))), (3, .c (.lit (.ptr 1001001 0))), (5, .c (.int .i64))], [.box true zBl, .box true zCv], []⟩
def yG3 : zF := ⟨[(2, .c (.lit (.ptr 1001000 0))), (3, .c (.lit (.ptr 1001001 0)))], [.box true zBl, .box true zCv], []⟩
def yAc : zF := ⟨[(4, .c (.bool))], [], []⟩
def yGo (f : qH4) (d : qZ9.den) : Option zTf := f d.1.2.2.1.1 (vA d.2.1) (vK d.2.2.1)
def zUa : qG := ⟨qZ9, [(.exit 0, yG3), (.ret, yAc)], zTf, fun k d => yGo (zGv k k) d, fun b x _ K => match x with | .inl x => K (.exit 0) (zT b yG3 (((), (), ()), ((zBg x.1 ()), (zBq x.2 ()), ()))) | .inr x => K .ret (zT b yAc (((x, ()), ()), ()))⟩
def yJo : zF := ⟨[(2, .c (.lit (.ptr 1001000 0))), (3, .c (.lit (.ptr 1001001 0))), (6, .c (.int .i64)), (7, .c (.int .i64))], [.box true zBl, .box true zCv], []⟩
def yIo : zF := ⟨[(2, .c (.lit (.ptr 1001000 0))), (3, .c (.lit (.ptr 1001001 0))), (6, .c (.int .i64))], [.box true zBl, .box true zCv], []⟩
def qT3 : zF := ⟨[(4, .c (.bool))], [], []⟩
def qXf (f : qNs) (d : yJo.den) : Option qAd := f d.1.2.2.1.1 d.1.2.2.2.1.1 (vA d.2.1) (vK d.2.2.1)
def qIa : qG := ⟨yJo, [(.exit 4, yIo), (.ret, qT3)], qAd, fun k d => qXf (zHo k k) d, fun b x _ K => match x with | .inl x => K (.exit 4) (zT b yIo (((), (), (x.1, ()), ()), ((zBg x.2.1 ()), (zBq x.2.2 ()), ()))) | .inr x => K .ret (zT b qT3 (((x, ()), ()), ()))⟩
def yOt : zF := ⟨[(2, .c (.lit (.ptr 1001000 0))), (3, .c (.lit (.ptr 1001001 0))), (6, .c (.int .i64))], [.box true zBl, .box true zCv], []⟩
def qQ5 : zF := ⟨[], [], []⟩
def yLe : zF := ⟨[(4, .c (.bool))], [], []⟩
def yIp (f : qB3) (d : yOt.den) : Option (Unit ⊕ Bool) := f d.1.2.2.1.1 (vA d.2.1) (vK d.2.2.1)
def zYj : qG := ⟨yOt, [(.exit 2, qQ5), (.ret, yLe)], (Unit ⊕ Bool), fun k d => yIp (zFq k k) d, fun b x _ K => match x with | .inl x => K (.exit 2) (zT b qQ5 ((), ())) | .inr x => K .ret (zT b yLe (((x, ()), ()), ()))⟩
def vFh : qC := ⟨prog, fun _ => false, qL [qCf]⟩
def zYl : qA := ⟨[], [(4, zUa), (14, qIa), (9, zYj)], true⟩
theorem zXi : qJ vFh := zN zM ⟨ySq, trivial⟩
theorem ySo : qE prog 1000 0 122 (zZ (qD f72) 0) zUa := lp (A := zYl) zUa (fun d => match d with | .inl d => .inl ((vA d.2.1), (vK d.2.2.1)) | .inr d => .inr d.1.1.1) yGo zGv zK5 zXi zL
theorem yP0 : qE prog 1000 0 122 (zZ (zZ (qD f72) 1) 0) qIa := lp (A := zYl) qIa (fun d => match d with | .inl d => .inl (d.1.2.2.1.1, (vA d.2.1), (vK d.2.2.1)) | .inr d => .inr d.1.1.1) qXf zHo zNk zXi zL
theorem yR4 : qE prog 1000 0 122 (zZ (qD f72) 1) zYj := lp (A := zYl) zYj (fun d => match d with | .inl d => .inl () | .inr d => .inr d.1.1.1) yIp zFq zLs zXi (loops1 yP0)
def qCv : Nat × zJ := zR 72 [.agg zBx, .agg zDt] (.c (.bool)) (fun k d => zO5 k (vA d) (zF3 d)) (fun x => (x, ()))
theorem yRy : zK prog qCv := fA (rs := .c (.bool)) f72 zYl (fun d => d.1) zXi (zGk (n := 2) (by kernel_rfl) fun i hi => match i, hi with | 0, _ => ⟨zUa, by kernel_rfl, ySo⟩ | 1, _ => ⟨zYj, by kernel_rfl, yR4⟩ | i + 2, hi => absurd hi (by omega))
def yKz : zF := ⟨[(0, .c (.dat false zI)), (3, .c (.int .i64))], [], []⟩
def qYr : zF := ⟨[(0, .c (.dat false zI))], [], []⟩
def yGf : zF := ⟨[(2, .c (.bool))], [], []⟩
def qV9 (f : qLf) (d : yKz.den) : Option zX9 := f d.1.1.1 d.1.2.1.1
def qHu : qG := ⟨yKz, [(.exit 0, qYr), (.ret, yGf)], zX9, fun k d => qV9 (zGa k k) d, fun b x _ K => match x with | .inl x => K (.exit 0) (zT b qYr (((x, ()), ()), ())) | .inr x => K .ret (zT b yGf (((x, ()), ()), ()))⟩
def yQ7 : qC := ⟨prog, fun _ => false, qL [qJ5, qJv]⟩
def qVx : qA := ⟨[], [(2, qHu)], false⟩
theorem yDm : qJ yQ7 := zN zM ⟨vH1, vCd, trivial⟩
theorem vCq : qE prog 1000 0 39 (zZ (qD f39) 0) qHu := lp (A := qVx) qHu (fun d => match d with | .inl d => .inl d.1.1.1 | .inr d => .inr d.1.1.1) qV9 zGa zNg yDm zL
def qEt : Nat × zJ := zR 39 [.c (.dat false zI)] (.c (.bool)) (fun k d => zP2 k d.1) (fun x => (x, ()))
theorem vB6 : zK prog qEt := fA (rs := .c (.bool)) f39 qVx (fun d => d.1) yDm (loops1 vCq)
def qQw : zF := ⟨[(0, .c (.dat false (.int .i64))), (3, .c (.int .i64))], [], []⟩
def qUu : zF := ⟨[(0, .c (.dat false (.int .i64)))], [], []⟩
def qSa : zF := ⟨[(2, .c (.bool))], [], []⟩
def qV0 (f : qIg) (d : qQw.den) : Option ((List Int) ⊕ Bool) := f d.1.1.1 d.1.2.1.1
def qI8 : qG := ⟨qQw, [(.exit 0, qUu), (.ret, qSa)], ((List Int) ⊕ Bool), fun k d => qV0 (zHq k k) d, fun b x _ K => match x with | .inl x => K (.exit 0) (zT b qUu (((x, ()), ()), ())) | .inr x => K .ret (zT b qSa (((x, ()), ()), ()))⟩
def vA6 : qC := ⟨prog, fun _ => false, qL []⟩
def yCj : qA := ⟨[], [(2, qI8)], true⟩
theorem qXa : qJ vA6 := zN zM trivial
theorem vD9 : qE prog 1000 0 34 (zZ (qD f138) 0) qI8 := lp (A := yCj) qI8 (fun d => match d with | .inl d => .inl d.1.1.1 | .inr d => .inr d.1.1.1) qV0 zHq zLc qXa zL
def qMg : Nat × zJ := zR 138 [.c (.dat false (.int .i64))] (.c (.bool)) (fun k d => zSm k d.1) (fun x => (x, ()))
theorem yYb : zK prog qMg := fA (rs := .c (.bool)) f138 yCj (fun d => d.1) qXa (loops1 vD9)
def qWz : zF := ⟨[(1, .c (.lit (.ptr 1001000 0))), (3, .c (.int .i64))], [.box true zCv], []⟩
def yJa : zF := ⟨[], [], []⟩
def qWc : zF := ⟨[(2, .c (.bool))], [], []⟩
def qWj (f : qMm) (d : qWz.den) : Option (Unit ⊕ Bool) := f d.1.2.1.1 (vK d.2.1)
def qOb : qG := ⟨qWz, [(.exit 0, yJa), (.ret, qWc)], (Unit ⊕ Bool), fun k d => qWj (zGj k k) d, fun b x _ K => match x with | .inl x => K (.exit 0) (zT b yJa ((), ())) | .inr x => K .ret (zT b qWc (((x, ()), ()), ()))⟩
def vJq : qC := ⟨prog, fun _ => false, qL [qEt, qMg, zSq, qCu]⟩
def yD9 : qA := ⟨[], [(4, qOb)], true⟩
theorem yKk : qJ vJq := zN zM ⟨vB6, yYb, yLl, vDv, trivial⟩
theorem vDh : qE prog 1000 0 57 (zZ (qD f73) 0) qOb := lp (A := yD9) qOb (fun d => match d with | .inl d => .inl () | .inr d => .inr d.1.1.1) qWj zGj zM1 yKk zL
def qCl : Nat × zJ := zR 73 [.agg zDt] (.c (.bool)) (fun k d => zQe k (vK d)) (fun x => (x, ()))
theorem yQu : zK prog qCl := fA (rs := .c (.bool)) f73 yD9 (fun d => d.1) yKk (loops1 vDh)
def yFu : zF := ⟨[(2, .c (.lit (.ptr 1001000 0))), (3, .c (.lit (.ptr 1001001 0))), (5, .c (.lit (.osl 1001002 none))), (6, .c (.int .i64))], [.box true zBl, .box true zCv, .arr true (.int .i64)], [(5, none, (.int .i64), false)]⟩
def qWq : zF := ⟨[(2, .c (.lit (.ptr 1001000 0))), (3, .c (.lit (.ptr 1001001 0))), (5, .c (.lit (.osl 1001002 none)))], [.box true zBl, .box true zCv, .arr true (.int .i64)], []⟩
def yNw (f : qBr) (d : yFu.den) : Option zUo := f d.1.2.2.2.1.1 (vA d.2.1) (vK d.2.2.1) d.2.2.2.1
def qKf : qG := ⟨yFu, [(.exit 0, qWq)], zUo, fun k d => yNw (zHy k k) d, fun b x _ K => K (.exit 0) (zT b qWq (((), (), (), ()), ((zBg x.1 ()), (zBq x.2.1 ()), x.2.2, ())))⟩
def vD6 : qC := ⟨prog, fun _ => false, qL [zS2, qCv, qCl, qO6]⟩
def yMi : qA := ⟨[], [(5, qKf)], true⟩
theorem yKn : qJ vD6 := zN zM ⟨yAp, yRy, yQu, vA1, trivial⟩
theorem vC5 : qE prog 1000 0 102 (zZ (qD f29) 0) qKf := lp (A := yMi) qKf (fun d => ((vA d.2.1), (vK d.2.2.1), d.2.2.2.1)) yNw zHy zL9 yKn zL
def qOa : Nat × zJ := zR 29 [.agg zBx, .agg zDt] (.c (.bool)) (fun k d => zWf k (vA d) (zF3 d)) (fun x => (x, ()))
theorem vCm : zK prog qOa := fA (rs := .c (.bool)) f29 yMi (fun d => d.1) yKn (loops1 vC5)
def zZk : Nat × zJ := zR 30 [.c (.int .i64)] (.agg [.int .i64, .own y0q, .int .i64, .int .i64, .int .i64]) (fun k d => zSx k d.1) (fun x => (zBg x ()))
theorem yEf : zK prog zZk := fA (rs := .agg [.int .i64, .own y0q, .int .i64, .int .i64, .int .i64]) f30 ⟨[], [], true⟩ (fun d => (vA d)) (zN (l := []) zM trivial) zL
def qP2 : Nat × zJ := zR 31 [.agg [.int .i64, .dat true y0q, .int .i64, .int .i64, .int .i64], .agg zRg, .agg qBx] (.tup [(true, zG7), (false, [.own yR]), (false, qX)]) (fun k d => zU1 k (vA d) (zF3 d) (qPp d)) (fun x => (zBq x.1 (x.2.1, x.2.2, ())))
theorem yRz : zK prog qP2 := fA (rs := .tup [(true, zG7), (false, [.own yR]), (false, qX)]) f31 ⟨[], [], true⟩ (fun d => ((vK d), d.2.2.2.2.2.2.2.2.2.2.2.1, d.2.2.2.2.2.2.2.2.2.2.2.2.1)) (zN (l := [yDq]) zM ⟨vFi, trivial⟩) zL
def qJf : Nat × zJ := zR 141 [.c (.dat false (.int .i64)), .ptr wC] (.c (.bool)) (fun k d => (zAn (qH8 k) d)) (fun x => (x, ()))
theorem yXw : zK prog qJf := fA (rs := .c (.bool)) f141 ⟨[], [], false⟩ (fun d => d.1) (zN (l := []) zM trivial) zL
def yA8 : zF := ⟨[(0, .c (.dat false (.sl (.int .i64)))), (1, .c (.lit (.fn 141 [1001000]))), (7, .c (.int .i64)), (8, .c (.int .i64))], [.robox jF], []⟩
def yF2 : zF := ⟨[], [], []⟩
def yNb : zF := ⟨[(4, .c (.int .i64))], [], []⟩
def yNx (f : qM3) (d : yA8.den) : Option (Unit ⊕ Int) := (yZ (f d.1.1.1 d.1.2.2.1.1 d.1.2.2.2.1.1) d.2.1)
def qKb : qG := ⟨yA8, [(.exit 0, yF2), (.ret, yNb)], (Unit ⊕ Int), fun k d => yNx (zQy k k) d, fun b x _ K => match x with | .inl x => K (.exit 0) (zT b yF2 ((), ())) | .inr x => K .ret (zT b yNb (((x, ()), ()), ()))⟩
def yUj : qC := ⟨prog, fun _ => false, qL [qJf]⟩
def yDj : qA := ⟨[], [(2, qKb)], false⟩
theorem qR7 : qJ yUj := zN zM ⟨yXw, trivial⟩
theorem vC0 : qE prog 1000 0 19 (zZ (qD f197) 0) qKb := lp (A := yDj) qKb (fun d => match d with | .inl d => .inl () | .inr d => .inr d.1.1.1) yNx zQy zKo qR7 zL
def yJf : Nat × zJ := zR 197 [.c (.dat false (.sl (.int .i64))), .fn 141 [wC]] (.c (.int .i64)) (fun k d => (zAn (qIx k) d)) (fun x => (x, ()))
theorem yVd : zK prog yJf := fA (rs := .c (.int .i64)) f197 yDj (fun d => d.1) qR7 (loops1 vC0)
def qDt : Nat × zJ := zR 142 [.c (.dat false (.sl (.int .i64))), .fn 141 [wC]] (.c (.bool)) (fun k d => (zAn (zTh k) d)) (fun x => (x, ()))
theorem vF4 : zK prog qDt := fA (rs := .c (.bool)) f142 ⟨[], [], false⟩ (fun d => d.1) (zN (l := [yJf]) zM ⟨yVd, trivial⟩) zL
def qSm : zF := ⟨[(1, .c (.lit (.ptr 1001000 0))), (3, .c (.lit (.osl 1001001 none))), (5, .c (.int .i64)), (17, .c (.dat false (.sl (.int .i64)))), (18, .c (.int .i64)), (19, .c (.int .i64)), (24, .c (.dat false (.int .i64))), (25, .c (.int .i64)), (26, .c (.int .i64))], [.box true jF, .arr true (.int .i64)], [(3, none, (.int .i64), false)]⟩
def qYe : zF := ⟨[(1, .c (.lit (.ptr 1001000 0))), (3, .c (.lit (.osl 1001001 none))), (17, .c (.dat false (.sl (.int .i64)))), (18, .c (.int .i64)), (19, .c (.int .i64))], [.box true jF, .arr true (.int .i64)], []⟩
def yHi : zF := ⟨[(2, .c (.bool))], [], []⟩
def yD3 (f : qEa) (d : qSm.den) : Option zZd := (yZ (f d.1.2.2.1.1 d.1.2.2.2.1.1 d.1.2.2.2.2.1.1 d.1.2.2.2.2.2.1.1 d.1.2.2.2.2.2.2.1.1 d.1.2.2.2.2.2.2.2.1.1 d.1.2.2.2.2.2.2.2.2.1.1) d.2.1) d.2.2.1
def qH2 : qG := ⟨qSm, [(.exit 2, qYe), (.ret, yHi)], zZd, fun k d => yD3 (zDm k k) d, fun b x _ K => match x with | .inl x => K (.exit 2) (zT b qYe (((), (), (x.1, ()), (x.2.1, ()), (x.2.2.1, ()), ()), ((yQb x ()), x.2.2.2.2.2.2.2, ()))) | .inr x => K .ret (zT b yHi (((x, ()), ()), ()))⟩
def yLg : zF := ⟨[(1, .c (.lit (.ptr 1001000 0))), (3, .c (.lit (.osl 1001001 none))), (17, .c (.dat false (.sl (.int .i64)))), (18, .c (.int .i64)), (19, .c (.int .i64))], [.box true jF, .arr true (.int .i64)], [(3, none, (.int .i64), false)]⟩
def yIx : zF := ⟨[(3, .c (.lit (.osl 1001000 none)))], [.arr true (.int .i64)], []⟩
def yLt : zF := ⟨[(2, .c (.bool))], [], []⟩
def yEa (f : qJt) (d : yLg.den) : Option ((List Int) ⊕ Bool) := (yZ (f d.1.2.2.1.1 d.1.2.2.2.1.1 d.1.2.2.2.2.1.1) d.2.1) d.2.2.1
def qA9 : qG := ⟨yLg, [(.exit 0, yIx), (.ret, yLt)], ((List Int) ⊕ Bool), fun k d => yEa (zDf k k) d, fun b x _ K => match x with | .inl x => K (.exit 0) (zT b yIx (((), ()), (x, ()))) | .inr x => K .ret (zT b yLt (((x, ()), ()), ()))⟩
def yWg : qC := ⟨prog, fun _ => false, qL [qDt, zJc]⟩
def qDx : qA := ⟨[], [(9, qH2), (6, qA9)], false⟩
theorem qLt : qJ yWg := zN zM ⟨vF4, qDr, trivial⟩
theorem yUq : qE prog 1000 0 58 (zZ (zZ (qD f74) 0) 0) qH2 := lp (A := qDx) qH2 (fun d => match d with | .inl d => .inl (d.1.2.2.1.1, d.1.2.2.2.1.1, d.1.2.2.2.2.1.1, (wD d.2.1 d.2.2.1)) | .inr d => .inr d.1.1.1) yD3 zDm zGs qLt zL
theorem vDm : qE prog 1000 0 58 (zZ (qD f74) 0) qA9 := lp (A := qDx) qA9 (fun d => match d with | .inl d => .inl d.2.1 | .inr d => .inr d.1.1.1) yEa zDf zG1 qLt (loops1 yUq)
def qCx : Nat × zJ := zR 74 [.agg wC] (.c (.bool)) (fun k d => (yZ (zIg k) d)) (fun x => (x, ()))
theorem qW5 : zK prog qCx := fA (rs := .c (.bool)) f74 qDx (fun d => d.1) qLt (loops1 vDm)
def qYc : Nat × zJ := zR 75 [.agg zC2, .c (.dat true zI), .c (.int .i64)] (.tup [(true, zCx), (false, [.bool])]) (fun k d => (zB4 (zT2 k) d)) (fun x => (qAi x ()))
theorem yZ9 : zK prog qYc := fA (rs := .tup [(true, zCx), (false, [.bool])]) f75 ⟨[], [], false⟩ (fun d => (zPq d)) (zN (l := [zXl]) zM ⟨yFc, trivial⟩) zL
def zWu : Nat × zJ := zR 33 [.agg qN9] (.c (.bool)) (fun k d => (zC3 (zN9 k) d)) (fun x => (x, ()))
theorem qQg : zK prog zWu := fA (rs := .c (.bool)) f33 ⟨[], [], false⟩ (fun d => d.1) (zN (l := [qYc]) zM ⟨yZ9, trivial⟩) zL
def zZa : Nat × zJ := zR 32 [.agg zBx, .agg qN9] (.c (.bool)) (fun k d => zQx k (vA d) (zF3 d)) (fun x => (x, ()))
theorem yOl : zK prog zZa := fA (rs := .c (.bool)) f32 ⟨[], [], true⟩ (fun d => d.1) (zN (l := [yOk, qCx, zWu]) zM ⟨yZi, qW5, qQg, trivial⟩) zL
def qG5 : Nat × zJ := zR 34 [.agg qN9] (.c (.bool)) (fun k d => (zC3 (zZj k) d)) (fun x => (x, ()))
theorem vCe : zK prog qG5 := fA (rs := .c (.bool)) f34 ⟨[], [], false⟩ (fun d => d.1) (zN (l := [yH1]) zM ⟨vBs, trivial⟩) zL
def qL4 : Nat × zJ := zR 144 [.agg zCa] (.c (.bool)) (fun k d => yGe k d.1 d.2.1 d.2.2.1) (fun x => (x, ()))
theorem vAw : zK prog qL4 := fA (rs := .c (.bool)) f144 ⟨[], [], false⟩ (fun d => d.1) (zN (l := [qOm]) zM ⟨yMh, trivial⟩) zL
def qZt : zF := ⟨[(2, .c (.lit (.ptr 1001000 0))), (15, .c (.dat false yI)), (16, .c (.int .i64)), (17, .c (.int .i64))], [.box true jF], []⟩
def yOr : zF := ⟨[], [], []⟩
def yMu : zF := ⟨[(4, .c (.bool))], [], []⟩
def qSg (f : qPf) (d : qZt.den) : Option (Unit ⊕ Bool) := (yZ (f d.1.2.1.1 d.1.2.2.1.1 d.1.2.2.2.1.1) d.2.1)
def qIo : qG := ⟨qZt, [(.exit 0, yOr), (.ret, yMu)], (Unit ⊕ Bool), fun k d => qSg (zXo k k) d, fun b x _ K => match x with | .inl x => K (.exit 0) (zT b yOr ((), ())) | .inr x => K .ret (zT b yMu (((x, ()), ()), ()))⟩
def vA9 : qC := ⟨prog, fun _ => false, qL [qL4]⟩
def yEx : qA := ⟨[], [(4, qIo)], false⟩
theorem yEo : qJ vA9 := zN zM ⟨vAw, trivial⟩
theorem vIo : qE prog 1000 0 36 (zZ (qD f76) 0) qIo := lp (A := yEx) qIo (fun d => match d with | .inl d => .inl () | .inr d => .inr d.1.1.1) qSg zXo yB7 yEo zL
def yDl : Nat × zJ := zR 76 [.agg wC, .agg wC] (.c (.bool)) (fun k d => (zCr (qO7 k) d)) (fun x => (x, ()))
theorem vEy : zK prog yDl := fA (rs := .c (.bool)) f76 yEx (fun d => d.1) yEo (loops1 vIo)
def yM8 : zF := ⟨[(0, .c (.dat false yR)), (6, .c (.int .i64)), (7, .c (.int .i64)), (8, .c (.int .i64)), (11, .c (.dat false (.int .i64))), (12, .c (.int .i64)), (13, .c (.int .i64)), (17, .c (.dat false yR)), (18, .c (.int .i64)), (19, .c (.int .i64))], [], []⟩
def yNv : zF := ⟨[(0, .c (.dat false yR)), (7, .c (.int .i64)), (8, .c (.int .i64)), (11, .c (.dat false (.int .i64))), (12, .c (.int .i64)), (13, .c (.int .i64))], [], []⟩
def yM5 (f : qNf) (d : yM8.den) : Option zX6 := f d.1.1.1 d.1.2.1.1 d.1.2.2.1.1 d.1.2.2.2.1.1 d.1.2.2.2.2.1.1 d.1.2.2.2.2.2.1.1 d.1.2.2.2.2.2.2.1.1 d.1.2.2.2.2.2.2.2.1.1 d.1.2.2.2.2.2.2.2.2.1.1 d.1.2.2.2.2.2.2.2.2.2.1.1
def qO2 : qG := ⟨yM8, [(.exit 2, yNv)], zX6, fun k d => yM5 (zY1 k k) d, fun b x _ K => K (.exit 2) (zT b yNv (((x.1, ()), (x.2.1, ()), (x.2.2.1, ()), (x.2.2.2.1, ()), (x.2.2.2.2.1, ()), (x.2.2.2.2.2, ()), ()), ()))⟩
def yCu : zF := ⟨[(0, .c (.dat false yR)), (11, .c (.dat false (.int .i64))), (12, .c (.int .i64)), (13, .c (.int .i64))], [], []⟩
def qV4 : zF := ⟨[], [], []⟩
def yKf : zF := ⟨[(4, .c (.bool))], [], []⟩
def yEe (f : qFu) (d : yCu.den) : Option (Unit ⊕ Bool) := f d.1.1.1 d.1.2.1.1 d.1.2.2.1.1 d.1.2.2.2.1.1
def qBn : qG := ⟨yCu, [(.exit 0, qV4), (.ret, yKf)], (Unit ⊕ Bool), fun k d => yEe (zYw k k) d, fun b x _ K => match x with | .inl x => K (.exit 0) (zT b qV4 ((), ())) | .inr x => K .ret (zT b yKf (((x, ()), ()), ()))⟩
def vHg : qC := ⟨prog, fun _ => false, qL []⟩
def qGh : qA := ⟨[], [(6, qO2), (2, qBn)], false⟩
theorem qMt : qJ vHg := zN zM trivial
theorem vEi : qE prog 1000 0 59 (zZ (zZ (qD f37) 0) 0) qO2 := lp (A := qGh) qO2 (fun d => (d.1.1.1, d.1.2.1.1, d.1.2.2.1.1, d.1.2.2.2.1.1, d.1.2.2.2.2.1.1, d.1.2.2.2.2.2.1.1)) yM5 zY1 yOo qMt zL
theorem vAt : qE prog 1000 0 59 (zZ (qD f37) 0) qBn := lp (A := qGh) qBn (fun d => match d with | .inl d => .inl () | .inr d => .inr d.1.1.1) yEe zYw qS6 qMt (loops1 vEi)
def yN3 : Nat × zJ := zR 37 [.c (.dat false yR), .c (.dat false (.int .i64))] (.c (.bool)) (fun k d => qWb k d.1 d.2.1) (fun x => (x, ()))
theorem vC6 : zK prog yN3 := fA (rs := .c (.bool)) f37 qGh (fun d => d.1) qMt (loops1 vAt)
def qJh : Nat × zJ := zR 35 [] (.c (.bool)) (fun k d => qKs k) (fun x => (x, ()))
theorem yRm : zK prog qJh := fA (rs := .c (.bool)) f35 ⟨[], [], true⟩ (fun d => d.1) (zN (l := [zZk, R4q, zZa, qCx, yDl, yN3]) zM ⟨yEf, F4q, yOl, qW5, vEy, vC6, trivial⟩) zL
def yF0 : zF := ⟨[(1, .c (.dat false yR)), (5, .c (.lit (.ptr 1001000 0))), (6, .c (.lit (.ptr 1001001 0))), (7, .c (.int .i64))], [.box true [.int .i64, .dat true y0q, .int .i64, .int .i64, .int .i64], .box true zGf], [(5, some 1, .bool, true), (6, some 1, .bool, true), (6, some 2, .bool, true), (6, some 3, .bool, true), (6, some 4, .bool, true), (6, some 5, .bool, true), (6, some 6, .bool, true), (6, some 7, .bool, true), (6, some 8, .bool, true)]⟩
def yM6 : zF := ⟨[(5, .c (.lit (.ptr 1001000 0))), (6, .c (.lit (.ptr 1001001 0)))], [.box true [.int .i64, .dat true y0q, .int .i64, .int .i64, .int .i64], .box true zGf], []⟩
def yIi (f : qNu) (d : yF0.den) : Option zTx := f d.1.1.1 d.1.2.2.2.1.1 (vA d.2.1) (vK d.2.2.1)
def qPd : qG := ⟨yF0, [(.exit 0, yM6)], zTx, fun k d => yIi (zIo k k) d, fun b x _ K => K (.exit 0) (zT b yM6 (((), (), ()), ((zBg x.1 ()), (zBq x.2 ()), ())))⟩
def yK9 : qC := ⟨prog, fun _ => false, qL [zZk, R4q, qP2, zZa, qOa, zWu, qG5, qJh]⟩
def qSi : qA := ⟨[], [(6, qPd)], true⟩
theorem qH9 : qJ yK9 := zN zM ⟨yEf, F4q, yRz, yOl, vCm, qQg, vCe, yRm, trivial⟩
theorem yU2 : qE prog 1000 0 50 (zZ (qD f12) 0) qPd := lp (A := qSi) qPd (fun d => ((vA d.2.1), (vK d.2.2.1))) yIi zIo zNu qH9 zL
def qKx : List AS := [.c (.int .i64), .c (.dat false yR)]
theorem yVn : qEl yK9 qSi 0 f12 qKx (.c (.bool)) (fun d => d.1) (fun k d => zZ9 k d.1 d.2.1) := by intro k d; kernel_rfl
end
end Go.Ab.Gi
