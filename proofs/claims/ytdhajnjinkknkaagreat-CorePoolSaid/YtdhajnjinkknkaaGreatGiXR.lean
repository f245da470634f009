/- part 48 -/
import Derived.Test.YtdhajnjinkknkaaGreatGiXS
import Derived.Test.YtdhajnjinkknkaaGreatGiAbE
import Derived.Test.YtdhajnjinkknkaaGreatProg
set_option linter.unusedVariables false
set_option maxRecDepth 100000
set_option maxHeartbeats 4000000
namespace Go.Ab.Gi
open Go.RowKit Go.Lib Go.Proofs Go.Proofs.Tryz
theorem mixed_orders : prog.follows .mixedOrders = true := by kernel_rfl
def R0q : Nat × Entry := entA 14 [.c (.int .i64)] (.agg [.int .i64, .own y0q, .int .i64, .int .i64, .int .i64]) (fun k d => girolaw23_rules k d.1) (fun x => (f0_5 x ()))
theorem F0q : FnOK prog R0q := fA (rs := .agg [.int .i64, .own y0q, .int .i64, .int .i64, .int .i64]) f14 ⟨[], [], true⟩ (fun d => (g0_5 d)) (env_n (l := []) mixed_orders trivial) loops0
def R1q : Nat × Entry := entA 78 [.c (.int .i64)] (.c (.bool)) (fun k d => lim_isSize k d.1) (fun x => (x, ()))
theorem F1q : FnOK prog R1q := fA (rs := .c (.bool)) f78 ⟨[], [], false⟩ (fun d => d.1) (env_n (l := []) mixed_orders trivial) loops0
def I2_0q : Spec := ⟨[(1, .c (.int .i64)), (5, .c (.lit (.osl 1001000 none))), (13, .c (.int .i64)), (14, .c (.int .i64))], [.arr true (.int .i64)], []⟩
def X0_2_0q : Spec := ⟨[(5, .c (.lit (.osl 1001000 none)))], [.arr true (.int .i64)], []⟩
def c2_0q (f : lim_Row_L0T) (d : I2_0q.den) : Option (List Int) := f d.1.1.1 d.1.2.2.1.1 d.1.2.2.2.1.1 d.2.1
def L2_0q : LoopSum := ⟨I2_0q, [(.exit 0, X0_2_0q)], (List Int), fun k d => c2_0q (lim_Row_L0 k k) d, fun b x _ K => K (.exit 0) (stOf b X0_2_0q (((), ()), (x, ())))⟩
noncomputable def E2q : Env := ⟨prog, fun _ => false, sumsOf [R1q]⟩
def A2q : Notes := ⟨[], [(5, L2_0q)], false⟩
theorem B2q : EnvB E2q := env_n (l := [R1q]) mixed_orders ⟨F1q, trivial⟩
theorem lk2_0q : LoopOK prog 1000 0 23 (loopAt (bodyOf f41) 0) L2_0q := lp (A := A2q) L2_0q (fun d => d.2.1) c2_0q lim_Row_L0 lim_Row_L0b B2q loops0
def R2q : Nat × Entry := entA 41 [.c (.int .i64), .c (.int .i64)] (.c (.own (.int .i64))) (fun k d => lim_Row k d.1 d.2.1) (fun x => (x, ()))
theorem F2q : FnOK prog R2q := fA (rs := .c (.own (.int .i64))) f41 A2q (fun d => d.1) B2q (loops1 lk2_0q)
def I3_0q : Spec := ⟨[(0, .c (.int .i64)), (1, .c (.int .i64)), (5, .c (.lit (.osl 1001000 none))), (13, .c (.int .i64)), (14, .c (.int .i64))], [.mat], []⟩
def X0_3_0q : Spec := ⟨[(5, .c (.lit (.osl 1001000 none)))], [.mat], []⟩
def c3_0q (f : lim_Square_L0T) (d : I3_0q.den) : Option (List (List Int)) := f d.1.1.1 d.1.2.1.1 d.1.2.2.2.1.1 d.1.2.2.2.2.1.1 d.2.1
def L3_0q : LoopSum := ⟨I3_0q, [(.exit 0, X0_3_0q)], (List (List Int)), fun k d => c3_0q (lim_Square_L0 k k) d, fun b x _ K => K (.exit 0) (stOf b X0_3_0q (((), ()), (x, ())))⟩
noncomputable def E3q : Env := ⟨prog, fun _ => false, sumsOf [R1q, R2q]⟩
def A3q : Notes := ⟨[11], [(5, L3_0q)], false⟩
theorem B3q : EnvB E3q := env_n (l := [R1q, R2q]) mixed_orders ⟨F1q, F2q, trivial⟩
theorem lk3_0q : LoopOK prog 1000 0 25 (loopAt (bodyOf f40) 0) L3_0q := lp (A := A3q) L3_0q (fun d => d.2.1) c3_0q lim_Square_L0 lim_Square_L0b B3q loops0
def R3q : Nat × Entry := entA 40 [.c (.int .i64), .c (.int .i64)] (.c (.mat)) (fun k d => lim_Square k d.1 d.2.1) (fun x => (x, ()))
theorem F3q : FnOK prog R3q := fA (rs := .c (.mat)) f40 A3q (fun d => d.1) B3q (loops1 lk3_0q)
def I4_0q : Spec := ⟨[(1, .c (.lit (.ptr 1001000 0))), (2, .c (.lit (.ptr 1001001 0))), (3, .c (.int .i64)), (4, .c (.lit (.ptr 1001002 0))), (20, .c (.dat false y0q)), (21, .c (.int .i64)), (22, .c (.int .i64))], [.box true cs3q, .box true cs11q, .box true cs10q, .arr true y7q, .mat, .arr true (.int .i64), .mat, .arr true (.int .i64)], [(4, some 5, (.int .i64), false)]⟩
def X0_4_0q : Spec := ⟨[(1, .c (.lit (.ptr 1001000 0))), (2, .c (.lit (.ptr 1001001 0))), (3, .c (.int .i64)), (4, .c (.lit (.ptr 1001002 0)))], [.box true cs3q, .box true cs11q, .box true cs10q, .arr true y7q, .mat, .arr true (.int .i64), .mat, .arr true (.int .i64)], []⟩
def c4_0q (f : core_New_L0T) (d : I4_0q.den) : Option core_New_L0X := f d.1.2.2.1.1 d.1.2.2.2.2.1.1 d.1.2.2.2.2.2.1.1 d.1.2.2.2.2.2.2.1.1 (g0_5 d.2.1) (d.2.2.1.1, d.2.2.1.2.1, d.2.2.1.2.2.1) (d.2.2.2.1.1, d.2.2.2.1.2.1, d.2.2.2.1.2.2.1) d.2.2.2.2.1 d.2.2.2.2.2.1 d.2.2.2.2.2.2.1 d.2.2.2.2.2.2.2.1 d.2.2.2.2.2.2.2.2.1
def L4_0q : LoopSum := ⟨I4_0q, [(.exit 0, X0_4_0q)], core_New_L0X, fun k d => c4_0q (core_New_L0 k k) d, fun b x _ K => K (.exit 0) (stOf b X0_4_0q (((), (), (x.1, ()), (), ()), ((f0_5 x.2.1 ()), (x.2.2.1.1, x.2.2.1.2.1, x.2.2.1.2.2, ()), (x.2.2.2.1.1, x.2.2.2.1.2.1, x.2.2.2.1.2.2, ()), x.2.2.2.2.1, x.2.2.2.2.2.1, x.2.2.2.2.2.2.1, x.2.2.2.2.2.2.2.1, x.2.2.2.2.2.2.2.2, ())))⟩
def I4_1q : Spec := ⟨[(1, .c (.lit (.ptr 1001000 0))), (2, .c (.lit (.ptr 1001001 0))), (4, .c (.lit (.ptr 1001002 0))), (34, .c (.int .i64)), (35, .c (.int .i64))], [.box true cs3q, .box true cs11q, .box true [.int .i64, .lit (.osl 1001003 none), .lit (.osl 1001004 none), .lit (.osl 1001005 none), .lit (.osl 1001006 none), .lit (.osl 1001007 none), .lit (.osl 1001008 none), .lit .nsl, .lit .nsl, .int .i64, .bool], .arr true y7q, .mat, .arr true (.int .i64), .mat, .arr true (.int .i64), .mat], [(4, some 6, (.sl (.int .i64)), true)]⟩
def X0_4_1q : Spec := ⟨[(2, .c (.lit (.ptr 1001000 0))), (4, .c (.lit (.ptr 1001001 0)))], [.box true cs11q, .box true [.int .i64, .lit (.osl 1001002 none), .lit (.osl 1001003 none), .lit (.osl 1001004 none), .lit (.osl 1001005 none), .lit (.osl 1001006 none), .lit (.osl 1001007 none), .lit .nsl, .lit .nsl, .int .i64, .bool], .arr true y7q, .mat, .arr true (.int .i64), .mat, .arr true (.int .i64), .mat], []⟩
def c4_1q (f : core_New_L1T) (d : I4_1q.den) : Option core_New_L1X := f d.1.2.2.2.1.1 d.1.2.2.2.2.1.1 (g0_5 d.2.1) (d.2.2.1.1, d.2.2.1.2.1, d.2.2.1.2.2.1) (d.2.2.2.1.1, d.2.2.2.1.2.1, d.2.2.2.1.2.2.1) d.2.2.2.2.1 d.2.2.2.2.2.1 d.2.2.2.2.2.2.1 d.2.2.2.2.2.2.2.1 d.2.2.2.2.2.2.2.2.1 d.2.2.2.2.2.2.2.2.2.1
def L4_1q : LoopSum := ⟨I4_1q, [(.exit 2, X0_4_1q)], core_New_L1X, fun k d => c4_1q (core_New_L1 k k) d, fun b x _ K => K (.exit 2) (stOf b X0_4_1q (((), (), ()), ((x.1.1, x.1.2.1, x.1.2.2, ()), (x.2.1.1, x.2.1.2.1, x.2.1.2.2, ()), x.2.2.1, x.2.2.2.1, x.2.2.2.2.1, x.2.2.2.2.2.1, x.2.2.2.2.2.2.1, x.2.2.2.2.2.2.2, ())))⟩
noncomputable def E4q : Env := ⟨prog, fun _ => false, sumsOf [R3q, R2q]⟩
def A4q : Notes := ⟨[43, 44], [(4, L4_0q), (9, L4_1q)], true⟩
theorem B4q : EnvB E4q := env_n (l := [R3q, R2q]) mixed_orders ⟨F3q, F2q, trivial⟩
theorem lk4_0q : LoopOK prog 1000 0 48 (loopAt (bodyOf f15) 0) L4_0q := lp (A := A4q) L4_0q (fun d => (d.1.2.2.1.1, (g0_5 d.2.1), (d.2.2.1.1, d.2.2.1.2.1, d.2.2.1.2.2.1), (d.2.2.2.1.1, d.2.2.2.1.2.1, d.2.2.2.1.2.2.1), d.2.2.2.2.1, d.2.2.2.2.2.1, d.2.2.2.2.2.2.1, d.2.2.2.2.2.2.2.1, d.2.2.2.2.2.2.2.2.1)) c4_0q core_New_L0 core_New_L0b B4q loops0
theorem lk4_1q : LoopOK prog 1000 0 48 (loopAt (bodyOf f15) 1) L4_1q := lp (A := A4q) L4_1q (fun d => ((d.2.1.1, d.2.1.2.1, d.2.1.2.2.1), (d.2.2.1.1, d.2.2.1.2.1, d.2.2.1.2.2.1), d.2.2.2.1, d.2.2.2.2.1, d.2.2.2.2.2.1, d.2.2.2.2.2.2.1, d.2.2.2.2.2.2.2.1, d.2.2.2.2.2.2.2.2.1)) c4_1q core_New_L1 core_New_L1b B4q loops0
def R4q : Nat × Entry := entA 15 [.agg pc19q] (.agg rc36q) (fun k d => core_New k (g0_5 d)) (fun x => (f0_11 x ()))
theorem F4q : FnOK prog R4q := fA (rs := .agg rc36q) f15 A4q (fun d => (g0_11 d)) B4q (loopsOK_of (n := 2) (by kernel_rfl) fun i hi => match i, hi with | 0, _ => ⟨L4_0q, by kernel_rfl, lk4_0q⟩ | 1, _ => ⟨L4_1q, by kernel_rfl, lk4_1q⟩ | i + 2, hi => absurd hi (by omega))
def R5q : Nat × Entry := entA 82 [.c (.int .i64)] (.c (.bool)) (fun k d => msg_Host k d.1) (fun x => (x, ()))
theorem F5q : FnOK prog R5q := fA (rs := .c (.bool)) f82 ⟨[], [], true⟩ (fun d => d.1) (env_n (l := []) mixed_orders trivial) loops0
def R6q : Nat × Entry := entA 83 [.c (.int .i64)] (.c (.bool)) (fun k d => msg_Asked k d.1) (fun x => (x, ()))
theorem F6q : FnOK prog R6q := fA (rs := .c (.bool)) f83 ⟨[], [], true⟩ (fun d => d.1) (env_n (l := []) mixed_orders trivial) loops0
def R7q : Nat × Entry := entA 152 [.c (.int .i64)] (.c (.int .i64)) (fun k d => msg_Many k d.1) (fun x => (x, ()))
theorem F7q : FnOK prog R7q := fA (rs := .c (.int .i64)) f152 ⟨[], [], true⟩ (fun d => d.1) (env_n (l := []) mixed_orders trivial) loops0
def I8_0q : Spec := ⟨[(13, .c (.dat true (.int .i64))), (14, .c (.int .i64)), (15, .c (.int .i64))], [], []⟩
def X0_8_0q : Spec := ⟨[], [], []⟩
def X1_8_0q : Spec := ⟨[(2, .c (.bool))], [], []⟩
def c8_0q (f : msg_Is_L0T) (d : I8_0q.den) : Option (Unit ⊕ Bool) := f d.1.1.1 d.1.2.1.1 d.1.2.2.1.1
def L8_0q : LoopSum := ⟨I8_0q, [(.exit 0, X0_8_0q), (.ret, X1_8_0q)], (Unit ⊕ Bool), fun k d => c8_0q (msg_Is_L0 k k) d, fun b x _ K => match x with | .inl x => K (.exit 0) (stOf b X0_8_0q ((), ())) | .inr x => K .ret (stOf b X1_8_0q (((x, ()), ()), ()))⟩
noncomputable def E8q : Env := ⟨prog, fun _ => false, sumsOf [R7q]⟩
def A8q : Notes := ⟨[], [(5, L8_0q)], true⟩
theorem B8q : EnvB E8q := env_n (l := [R7q]) mixed_orders ⟨F7q, trivial⟩
theorem lk8_0q : LoopOK prog 1000 0 22 (loopAt (bodyOf f84) 0) L8_0q := lp (A := A8q) L8_0q (fun d => match d with | .inl d => .inl () | .inr d => .inr d.1.1.1) c8_0q msg_Is_L0 msg_Is_L0b B8q loops0
def R8q : Nat × Entry := entA 84 [.agg pc24q] (.c (.bool)) (fun k d => msg_Is k (g0_7 d)) (fun x => (x, ()))
theorem F8q : FnOK prog R8q := fA (rs := .c (.bool)) f84 A8q (fun d => d.1) B8q (loops1 lk8_0q)
def R9q : Nat × Entry := entA 45 [.agg pc19q, .agg pc21q, .agg pc25q] (.c (.int .i64)) (fun k d => core_may k (g0_5 d) (g5_11 d) (g16_8 d)) (fun x => (x, ()))
theorem F9q : FnOK prog R9q := fA (rs := .c (.int .i64)) f45 ⟨[], [], true⟩ (fun d => d.1) (env_n (l := [R5q, R6q, R8q]) mixed_orders ⟨F5q, F6q, F8q, trivial⟩) loops0
def R10q : Nat × Entry := entA 154 [.agg pc24q, .ptr [.int .i64]] (.c (.bool)) (fun k d => (u0_8 (view_Of_fn1 k) d)) (fun x => (x, ()))
theorem F10q : FnOK prog R10q := fA (rs := .c (.bool)) f154 ⟨[], [], false⟩ (fun d => d.1) (env_n (l := []) mixed_orders trivial) loops0
def I11_0q : Spec := ⟨[(1, .c (.lit (.fn 154 [1001000]))), (5, .c (.lit (.osl 1001001 none))), (8, .c (.dat false y17q)), (9, .c (.int .i64)), (10, .c (.int .i64))], [.robox [.int .i64], .arr true y17q], [(5, none, y17q, false)]⟩
def X0_11_0q : Spec := ⟨[(5, .c (.lit (.osl 1001000 none)))], [.arr true y17q], []⟩
def c11_0q (f : view_all__view_Of_fn1_L0T) (d : I11_0q.den) : Option view_all__view_Of_fn1_L0X := f d.1.2.2.1.1 d.1.2.2.2.1.1 d.1.2.2.2.2.1.1 d.2.1.1 d.2.2.1
def L11_0q : LoopSum := ⟨I11_0q, [(.exit 0, X0_11_0q)], view_all__view_Of_fn1_L0X, fun k d => c11_0q (view_all__view_Of_fn1_L0 k k) d, fun b x _ K => K (.exit 0) (stOf b X0_11_0q (((), ()), (x, ())))⟩
noncomputable def E11q : Env := ⟨prog, fun _ => false, sumsOf [R10q]⟩
def A11q : Notes := ⟨[], [(3, L11_0q)], false⟩
theorem B11q : EnvB E11q := env_n (l := [R10q]) mixed_orders ⟨F10q, trivial⟩
theorem lk11_0q : LoopOK prog 1000 0 23 (loopAt (bodyOf f153) 0) L11_0q := lp (A := A11q) L11_0q (fun d => d.2.1) c11_0q view_all__view_Of_fn1_L0 view_all__view_Of_fn1_L0b B11q loops0
def R11q : Nat × Entry := entA 153 [.c (.dat false y17q), .fn 154 [[.int .i64]]] (.c (.own y17q)) (fun k d => view_all__view_Of_fn1 k d.1 d.2.1) (fun x => (x, ()))
theorem F11q : FnOK prog R11q := fA (rs := .c (.own y17q)) f153 A11q (fun d => d.1) B11q (loops1 lk11_0q)
def R12q : Nat × Entry := entA 85 [.c (.dat false y17q), .c (.int .i64)] (.c (.own y17q)) (fun k d => view_Of k d.1 d.2.1) (fun x => (x, ()))
theorem F12q : FnOK prog R12q := fA (rs := .c (.own y17q)) f85 ⟨[], [], false⟩ (fun d => d.1) (env_n (l := [R11q]) mixed_orders ⟨F11q, trivial⟩) loops0
def R13q : Nat × Entry := entX 47 [.ptr true [.p (.int .i64), .p (.nil), .p (.int .i64), .p (.int .i64), .p (.int .i64), .p (.int .i64), .p (.nil), .p (.nil), .p (.nil), .p (.nil), .p (.nil), .p (.nil), .p (.nil), .p (.nil), .p (.int .i64), .p (.bool), .p (.int .i64), .p (.nil)], .c (.p (.int .i64)), .c (.p (.dat false (.int .i64)))] (.tup []) [rc35q] (fun k d => core_desk_tells k (d.1, (j2_4 d (d.2.2.2.2.2.2.2.2.2.2.2.2.2.2.1, d.2.2.2.2.2.2.2.2.2.2.2.2.2.2.2.1, d.2.2.2.2.2.2.2.2.2.2.2.2.2.2.2.2.1))) d.2.2.2.2.2.2.2.2.2.2.2.2.2.2.2.2.2.2.1 d.2.2.2.2.2.2.2.2.2.2.2.2.2.2.2.2.2.2.2.1) (fun x => (f0_18 x ()))
theorem F13q : FnOK prog R13q := fX (rs := .tup []) (os := [rc35q]) f47 ⟨[], [], true⟩ 1 (fun d => (g0_18 d)) (env_n (l := []) mixed_orders trivial) loops0
def R14q : Nat × Entry := entA 46 [.agg pc21q, .c (.int .i64)] (.c (.own y18q)) (fun k d => core_query k (g0_11 d) d.2.2.2.2.2.2.2.2.2.2.2.1) (fun x => (x, ()))
theorem F14q : FnOK prog R14q := fA (rs := .c (.own y18q)) f46 ⟨[], [], true⟩ (fun d => d.1) (env_n (l := [R12q, R13q]) mixed_orders ⟨F12q, F13q, trivial⟩) loops0
def R15q : Nat × Entry := entX 47 [.ptr true xc38q, .c (.p (.int .i64)), .c (.p (.dat false (.int .i64)))] (.tup []) [rc28q] (fun k d => core_desk_tells_v2 k (g0_17 d) d.2.2.2.2.2.2.2.2.2.2.2.2.2.2.2.2.2.2.1 d.2.2.2.2.2.2.2.2.2.2.2.2.2.2.2.2.2.2.2.1) (fun x => (f0_18 x ()))
theorem F15q : FnOK prog R15q := fX (rs := .tup []) (os := [rc28q]) f47 ⟨[], [], true⟩ 1 (fun d => (g0_18 d)) (env_n (l := []) mixed_orders trivial) loops0
def R16q : Nat × Entry := entA 64 [.c (.int .i64), .c (.int .i64), .c (.int .i64)] (.c (.bool)) (fun k d => core_in k d.1 d.2.1 d.2.2.1) (fun x => (x, ()))
theorem F16q : FnOK prog R16q := fA (rs := .c (.bool)) f64 ⟨[], [], true⟩ (fun d => d.1) (env_n (l := []) mixed_orders trivial) loops0
def R17q : Nat × Entry := entA 243 [.agg pc19q, .c (.int .i64)] (.c (.bool)) (fun k d => pay_isParty k (g0_5 d) d.2.2.2.2.2.1) (fun x => (x, ()))
theorem F17q : FnOK prog R17q := fA (rs := .c (.bool)) f243 ⟨[], [], true⟩ (fun d => d.1) (env_n (l := []) mixed_orders trivial) loops0
def R18q : Nat × Entry := entA 206 [.agg pc19q, .c (.int .i64), .agg pc24q] (.c (.bool)) (fun k d => pay_isPay k (g0_5 d) d.2.2.2.2.2.1 (g6_7 d)) (fun x => (x, ()))
theorem F18q : FnOK prog R18q := fA (rs := .c (.bool)) f206 ⟨[], [], true⟩ (fun d => d.1) (env_n (l := [R17q]) mixed_orders ⟨F17q, trivial⟩) loops0
def R19q : Nat × Entry := entA 160 [.agg pc19q, .c (.int .i64), .c (.int .i64)] (.c (.int .i64)) (fun k d => day_May k (g0_5 d) d.2.2.2.2.2.1 d.2.2.2.2.2.2.1) (fun x => (x, ()))
theorem F19q : FnOK prog R19q := fA (rs := .c (.int .i64)) f160 ⟨[], [], true⟩ (fun d => d.1) (env_n (l := []) mixed_orders trivial) loops0
def R20q : Nat × Entry := entA 155 [.agg pc19q, .c (.int .i64), .agg pc24q] (.c (.int .i64)) (fun k d => pay_Check k (g0_5 d) d.2.2.2.2.2.1 (g6_7 d)) (fun x => (x, ()))
theorem F20q : FnOK prog R20q := fA (rs := .c (.int .i64)) f155 ⟨[], [], true⟩ (fun d => d.1) (env_n (l := [R18q, R19q]) mixed_orders ⟨F18q, F19q, trivial⟩) loops0
def R21q : Nat × Entry := entA 255 [.c (.int .i64)] (.c (.bool)) (fun k d => cmp_isNaN_int64 k d.1) (fun x => (x, ()))
theorem F21q : FnOK prog R21q := fA (rs := .c (.bool)) f255 ⟨[], [], true⟩ (fun d => d.1) (env_n (l := []) mixed_orders trivial) loops0
def R22q : Nat × Entry := entA 230 [.c (.int .i64), .c (.int .i64)] (.c (.bool)) (fun k d => cmp_Less_int64 k d.1 d.2.1) (fun x => (x, ()))
theorem F22q : FnOK prog R22q := fA (rs := .c (.bool)) f230 ⟨[], [], true⟩ (fun d => d.1) (env_n (l := [R21q]) mixed_orders ⟨F21q, trivial⟩) loops0
def R23q : Nat × Entry := entA 231 [.c (.int .i64)] (.c (.bool)) (fun k d => slices_isNaN_int64 k d.1) (fun x => (x, ()))
theorem F23q : FnOK prog R23q := fA (rs := .c (.bool)) f231 ⟨[], [], true⟩ (fun d => d.1) (env_n (l := []) mixed_orders trivial) loops0
def I24_0q : Spec := ⟨[(0, .c (.dat false (.int .i64))), (1, .c (.int .i64)), (6, .c (.int .i64)), (7, .c (.int .i64)), (8, .c (.int .i64))], [], []⟩
def X0_24_0q : Spec := ⟨[(0, .c (.dat false (.int .i64))), (1, .c (.int .i64)), (6, .c (.int .i64)), (7, .c (.int .i64))], [], []⟩
def c24_0q (f : slices_BinarySearch_int64_L0T) (d : I24_0q.den) : Option slices_BinarySearch_int64_L0X := f d.1.1.1 d.1.2.1.1 d.1.2.2.1.1 d.1.2.2.2.1.1 d.1.2.2.2.2.1.1
def L24_0q : LoopSum := ⟨I24_0q, [(.exit 0, X0_24_0q)], slices_BinarySearch_int64_L0X, fun k d => c24_0q (slices_BinarySearch_int64_L0 k k) d, fun b x _ K => K (.exit 0) (stOf b X0_24_0q (((x.1, ()), (x.2.1, ()), (x.2.2.1, ()), (x.2.2.2, ()), ()), ()))⟩
noncomputable def E24q : Env := ⟨prog, fun _ => false, sumsOf [R22q, R23q]⟩
def A24q : Notes := ⟨[], [(3, L24_0q)], true⟩
theorem B24q : EnvB E24q := env_n (l := [R22q, R23q]) mixed_orders ⟨F22q, F23q, trivial⟩
theorem lk24_0q : LoopOK prog 1000 0 54 (loopAt (bodyOf f192) 0) L24_0q := lp (A := A24q) L24_0q (fun d => (d.1.1.1, d.1.2.1.1, d.1.2.2.1.1, d.1.2.2.2.1.1)) c24_0q slices_BinarySearch_int64_L0 slices_BinarySearch_int64_L0b B24q loops0
def R24q : Nat × Entry := entA 192 [.c (.dat false (.int .i64)), .c (.int .i64)] (.tup [(false, rc27q), (false, [.bool])]) (fun k d => slices_BinarySearch_int64 k d.1 d.2.1) (fun x => (x.1, x.2, ()))
theorem F24q : FnOK prog R24q := fA (rs := .tup [(false, rc27q), (false, [.bool])]) f192 A24q (fun d => (d.1, d.2.1)) B24q (loops1 lk24_0q)
def R25q : Nat × Entry := entC 208 false (.int .i64) (.own (.int .i64)) slices_Clone_int64
theorem F25q : FnOK prog R25q := fC f208 ⟨[], [], false⟩ (env_n (l := []) mixed_orders trivial) loops0
theorem ie26q (A X : Option Addr) (n c vc : Nat) (w w' : World) (rv : Value) (hr : (Builtin.append_ #[29, 29] 29 #[.slice A n c, .slice X 1 vc]).run prog w = .ok rv w') :
    Calls prog 207 #[.slice A n c, .int .i64 n, .slice X 1 vc] w fun e w'' => e = .returned rv ∧ w'' = w' := by
  have t0 : prog.underlying 29 = some (.slice 2) := by kernel_rfl
  have t3 : prog.underlying 3 = some (.int .i64) := by kernel_rfl
  have z0 : ∀ w, (Go.sizeOf 2).run prog w = .ok 1 w := fun w => by kernel_rfl
  have u0 := run_underlying t0; have u3 := run_underlying t3
  go_enter Proofs.Tryz.func207, Proofs.Tryz.ntmps207
  go_wp2_with (at_builtin; refine Lib.wpList_append_run _ rfl _ _ _ _ rfl _ _ rfl rfl _ _ hr ?_)
  all_goals (go_ret; exact ⟨rfl, rfl⟩)
theorem iw26q : InsOK prog 207 29 3 1 where
  ends := ie26q
  grow B off n c i X vo vc N G w w1 w2 w3 hi hnc hroom h63 hG hz hA hB := by
    simp only [Nat.mul_one] at hA hB
    have t0 : prog.underlying 29 = some (.slice 2) := by kernel_rfl
    have t3 : prog.underlying 3 = some (.int .i64) := by kernel_rfl
    have z0 : ∀ w, (Go.sizeOf 2).run prog w = .ok 1 w := fun w => by kernel_rfl
    have u0 := run_underlying t0; have u3 := run_underlying t3
    have mixed : prog.follows .mixedOrders = true := mixed_orders
    have hz2 : ¬ ((i : Int) = (n : Int)) := by omega
    have hw1 : IntKind.i64.wrap ((i : Int) + 1) = (i : Int) + 1 := by rw [IntKind.wrap_i64]; omega
    have hb1 : (0 : Int) ≤ (i : Int) + 1 := by omega
    have hin : i ≤ n := by omega
    have htn : ((i : Int) + 1).toNat = i + 1 := by omega
    have hci : ¬ (c = i) := by omega
    have hz3 : (c : Int) < (n : Int) + 1 := by omega
    have hb3 : (i : Int) ≤ (n : Int) := by omega
    have hGi : ¬ (G = i) := by omega
    have hGim : ¬ (G = i + 1) := by omega
    go_enter Proofs.Tryz.func207, Proofs.Tryz.ntmps207
    go_wp2_with (first
      | (at_builtin; refine Lib.wpList_append_run _ rfl _ _ _ _ rfl _ _ rfl rfl _ _ hz ?_)
      | (at_builtin; refine wpList_copy_runJ _ rfl _ _ 29 29 rfl _ _ rfl rfl (hA _) ?_))
    go_region_law_o (refine step_copy_runJ rfl _ _ 29 29 rfl (.slice (some ⟨N, (i + 1), none⟩) (n + 1 - (i + 1)) (G - (i + 1))) (.slice (some ⟨B, off + i, none⟩) (n - i) (c - i)) (by simp [Act.eval, Act.put]) (by simp [Act.eval, Act.put]) (hB (G - (i + 1)) (c - i)) ?_)
    go_wp2
    go_ret
    exact ⟨rfl, rfl⟩
  shift B off n c i X vo vc w w1 w2 hi hroom h63 hap hA hB := by
    simp only [Nat.mul_one] at hA hB
    have t0 : prog.underlying 29 = some (.slice 2) := by kernel_rfl
    have t3 : prog.underlying 3 = some (.int .i64) := by kernel_rfl
    have z0 : ∀ w, (Go.sizeOf 2).run prog w = .ok 1 w := fun w => by kernel_rfl
    have u0 := run_underlying t0; have u3 := run_underlying t3
    have mixed : prog.follows .mixedOrders = true := mixed_orders
    have hz2 : ¬ ((i : Int) = (n : Int)) := by omega
    have hw1 : IntKind.i64.wrap ((i : Int) + 1) = (i : Int) + 1 := by rw [IntKind.wrap_i64]; omega
    have hb1 : (0 : Int) ≤ (i : Int) + 1 := by omega
    have hin : i ≤ n := by omega
    have htn : ((i : Int) + 1).toNat = i + 1 := by omega
    have hci : ¬ (c = i) := by omega
    have hov := fun lb cb => over_apart (P := prog) (fo := 244) (tb := 4) (e := 2) (size := 1) Proofs.Tryz.func244 (by kernel_rfl) (by kernel_rfl) (by kernel_rfl) (by kernel_rfl) t0 z0 hap vo (off + (i + 1)) vc lb cb
    have hb2 : ¬ (c = i + 1) := by omega
    have hb3 : (i : Int) ≤ (n : Int) + 1 := by omega
    go_enter Proofs.Tryz.func207, Proofs.Tryz.ntmps207
    go_wp2_with (simp only [hov])
    go_region_law_o (refine step_copy_runJ rfl _ _ 29 29 rfl (.slice (some ⟨B, off + (i + 1), none⟩) (n - i) (c - (i + 1))) (.slice (some ⟨B, off + i, none⟩) (n + 1 - i) (c - i)) (by simp [Act.eval, Act.put]) (by simp [Act.eval, Act.put]) (hA _ _) ?_)
    go_wp2_with (at_builtin; refine wpList_copy_runJ _ rfl _ _ 29 29 rfl _ _ rfl rfl (hB _) ?_)
    go_ret
    exact ⟨rfl, rfl⟩
def R26q : Nat × Entry := (207, insE (.int .i64) 8)
theorem F26q : FnOK prog R26q := fn_ins (e := 2) (fn := f207) iw26q
def R27q : Nat × Entry := entA 156 [.c (.dat true (.int .i64)), .c (.int .i64)] (.tup [(false, [.fro (.int .i64)]), (false, rc27q)]) (fun k d => ids_Add k d.1 d.2.1) (fun x => (x.1, x.2, ()))
theorem F27q : FnOK prog R27q := fA (rs := .tup [(false, [.fro (.int .i64)]), (false, rc27q)]) f156 ⟨[], [], true⟩ (fun d => (d.1, d.2.1)) (env_n (l := [R24q, R25q, R26q]) mixed_orders ⟨F24q, F25q, F26q, trivial⟩) loops0
def R28q : Nat × Entry := entA 99 [.agg pc24q, .ptr [.int .i64]] (.c (.bool)) (fun k d => (u0_8 (row_Find_fn1 k) d)) (fun x => (x, ()))
theorem F28q : FnOK prog R28q := fA (rs := .c (.bool)) f99 ⟨[], [], false⟩ (fun d => d.1) (env_n (l := []) mixed_orders trivial) loops0
def I29_0q : Spec := ⟨[(0, .c (.dat false y17q)), (1, .c (.lit (.fn 99 [1001000]))), (7, .c (.int .i64)), (8, .c (.int .i64))], [.robox [.int .i64]], []⟩
def X0_29_0q : Spec := ⟨[], [], []⟩
def X1_29_0q : Spec := ⟨[(4, .c (.int .i64))], [], []⟩
def c29_0q (f : slices_IndexFunc_Pay__row_Find_fn1_L0T) (d : I29_0q.den) : Option (Unit ⊕ Int) := f d.1.1.1 d.1.2.2.1.1 d.1.2.2.2.1.1 d.2.1.1
def L29_0q : LoopSum := ⟨I29_0q, [(.exit 0, X0_29_0q), (.ret, X1_29_0q)], (Unit ⊕ Int), fun k d => c29_0q (slices_IndexFunc_Pay__row_Find_fn1_L0 k k) d, fun b x _ K => match x with | .inl x => K (.exit 0) (stOf b X0_29_0q ((), ())) | .inr x => K .ret (stOf b X1_29_0q (((x, ()), ()), ()))⟩
noncomputable def E29q : Env := ⟨prog, fun _ => false, sumsOf [R28q]⟩
def A29q : Notes := ⟨[], [(2, L29_0q)], false⟩
theorem B29q : EnvB E29q := env_n (l := [R28q]) mixed_orders ⟨F28q, trivial⟩
theorem lk29_0q : LoopOK prog 1000 0 19 (loopAt (bodyOf f98) 0) L29_0q := lp (A := A29q) L29_0q (fun d => match d with | .inl d => .inl () | .inr d => .inr d.1.1.1) c29_0q slices_IndexFunc_Pay__row_Find_fn1_L0 slices_IndexFunc_Pay__row_Find_fn1_L0b B29q loops0
def R29q : Nat × Entry := entA 98 [.c (.dat false y17q), .fn 99 [[.int .i64]]] (.c (.int .i64)) (fun k d => slices_IndexFunc_Pay__row_Find_fn1 k d.1 d.2.1) (fun x => (x, ()))
theorem F29q : FnOK prog R29q := fA (rs := .c (.int .i64)) f98 A29q (fun d => d.1) B29q (loops1 lk29_0q)
def R30q : Nat × Entry := entA 51 [.c (.dat false y17q), .c (.int .i64)] (.c (.int .i64)) (fun k d => row_Find k d.1 d.2.1) (fun x => (x, ()))
theorem F30q : FnOK prog R30q := fA (rs := .c (.int .i64)) f51 ⟨[], [], false⟩ (fun d => d.1) (env_n (l := [R29q]) mixed_orders ⟨F29q, trivial⟩) loops0
def R31q : Nat × Entry := entA 256 [.c (.int .i64)] (.c (.bool)) (fun k d => cmp_isNaN_int k d.1) (fun x => (x, ()))
theorem F31q : FnOK prog R31q := fA (rs := .c (.bool)) f256 ⟨[], [], false⟩ (fun d => d.1) (env_n (l := []) mixed_orders trivial) loops0
def R32q : Nat × Entry := entA 233 [.c (.int .i64), .c (.int .i64)] (.c (.int .i64)) (fun k d => cmp_Compare_int k d.1 d.2.1) (fun x => (x, ()))
theorem F32q : FnOK prog R32q := fA (rs := .c (.int .i64)) f233 ⟨[], [], false⟩ (fun d => d.1) (env_n (l := [R31q]) mixed_orders ⟨F31q, trivial⟩) loops0
def I33_0q : Spec := ⟨[(3, .c (.int .i64)), (6, .c (.dat false (.int .i64))), (7, .c (.int .i64)), (8, .c (.int .i64))], [], []⟩
def X0_33_0q : Spec := ⟨[(3, .c (.int .i64))], [], []⟩
def X1_33_0q : Spec := ⟨[(2, .c (.int .i64))], [], []⟩
def c33_0q (f : cmp_Or_int_L0T) (d : I33_0q.den) : Option (Int ⊕ Int) := f d.1.1.1 d.1.2.1.1 d.1.2.2.1.1 d.1.2.2.2.1.1
def L33_0q : LoopSum := ⟨I33_0q, [(.exit 0, X0_33_0q), (.ret, X1_33_0q)], (Int ⊕ Int), fun k d => c33_0q (cmp_Or_int_L0 k k) d, fun b x _ K => match x with | .inl x => K (.exit 0) (stOf b X0_33_0q (((x, ()), ()), ())) | .inr x => K .ret (stOf b X1_33_0q (((x, ()), ()), ()))⟩
noncomputable def E33q : Env := ⟨prog, fun _ => false, sumsOf []⟩
def A33q : Notes := ⟨[], [(3, L33_0q)], false⟩
theorem B33q : EnvB E33q := env_n (l := []) mixed_orders trivial
theorem lk33_0q : LoopOK prog 1000 0 18 (loopAt (bodyOf f232) 0) L33_0q := lp (A := A33q) L33_0q (fun d => match d with | .inl d => .inl d.1.1.1 | .inr d => .inr d.1.1.1) c33_0q cmp_Or_int_L0 cmp_Or_int_L0b B33q loops0
def R33q : Nat × Entry := entA 232 [.c (.dat false (.int .i64))] (.c (.int .i64)) (fun k d => cmp_Or_int k d.1) (fun x => (x, ()))
theorem F33q : FnOK prog R33q := fA (rs := .c (.int .i64)) f232 A33q (fun d => d.1) B33q (loops1 lk33_0q)
def R34q : Nat × Entry := entA 194 [.agg pc24q, .agg pc24q] (.c (.int .i64)) (fun k d => (u0_14 (row_order k) d)) (fun x => (x, ()))
theorem F34q : FnOK prog R34q := fA (rs := .c (.int .i64)) f194 ⟨[], [], false⟩ (fun d => d.1) (env_n (l := [R32q, R33q]) mixed_orders ⟨F32q, F33q, trivial⟩) loops0
def R35q : Nat × Entry := entC 210 false y17q (.own y17q) slices_Clone_Pay
theorem F35q : FnOK prog R35q := fC f210 ⟨[], [], false⟩ (env_n (l := []) mixed_orders trivial) loops0
theorem ie36q (A X : Option Addr) (n c vc : Nat) (w w' : World) (rv : Value) (hr : (Builtin.append_ #[32, 32] 32 #[.slice A n c, .slice X 1 vc]).run prog w = .ok rv w') :
    Calls prog 209 #[.slice A n c, .int .i64 n, .slice X 1 vc] w fun e w'' => e = .returned rv ∧ w'' = w' := by
  have t0 : prog.underlying 32 = some (.slice 52) := by kernel_rfl
  have t3 : prog.underlying 3 = some (.int .i64) := by kernel_rfl
  have z0 : ∀ w, (Go.sizeOf 52).run prog w = .ok 7 w := fun w => by kernel_rfl
  have u0 := run_underlying t0; have u3 := run_underlying t3
  go_enter Proofs.Tryz.func209, Proofs.Tryz.ntmps209
  go_wp2_with (at_builtin; refine Lib.wpList_append_run _ rfl _ _ _ _ rfl _ _ rfl rfl _ _ hr ?_)
  all_goals (go_ret; exact ⟨rfl, rfl⟩)
theorem iw36q : InsOK prog 209 32 3 7 where
  ends := ie36q
  grow B off n c i X vo vc N G w w1 w2 w3 hi hnc hroom h63 hG hz hA hB := by
    have t0 : prog.underlying 32 = some (.slice 52) := by kernel_rfl
    have t3 : prog.underlying 3 = some (.int .i64) := by kernel_rfl
    have z0 : ∀ w, (Go.sizeOf 52).run prog w = .ok 7 w := fun w => by kernel_rfl
    have u0 := run_underlying t0; have u3 := run_underlying t3
    have mixed : prog.follows .mixedOrders = true := mixed_orders
    have hz2 : ¬ ((i : Int) = (n : Int)) := by omega
    have hw1 : IntKind.i64.wrap ((i : Int) + 1) = (i : Int) + 1 := by rw [IntKind.wrap_i64]; omega
    have hb1 : (0 : Int) ≤ (i : Int) + 1 := by omega
    have hin : i ≤ n := by omega
    have htn : ((i : Int) + 1).toNat = i + 1 := by omega
    have hci : ¬ (c = i) := by omega
    have hz3 : (c : Int) < (n : Int) + 1 := by omega
    have hb3 : (i : Int) ≤ (n : Int) := by omega
    have hGi : ¬ (G = i) := by omega
    have hGim : ¬ (G = i + 1) := by omega
    go_enter Proofs.Tryz.func209, Proofs.Tryz.ntmps209
    go_wp2_with (first
      | (at_builtin; refine Lib.wpList_append_run _ rfl _ _ _ _ rfl _ _ rfl rfl _ _ hz ?_)
      | (at_builtin; refine wpList_copy_runJ _ rfl _ _ 32 32 rfl _ _ rfl rfl (hA _) ?_))
    go_region_law_o (refine step_copy_runJ rfl _ _ 32 32 rfl (.slice (some ⟨N, (i + 1) * 7, none⟩) (n + 1 - (i + 1)) (G - (i + 1))) (.slice (some ⟨B, off + i * 7, none⟩) (n - i) (c - i)) (by simp [Act.eval, Act.put]) (by simp [Act.eval, Act.put]) (hB (G - (i + 1)) (c - i)) ?_)
    go_wp2
    go_ret
    exact ⟨rfl, rfl⟩
  shift B off n c i X vo vc w w1 w2 hi hroom h63 hap hA hB := by
    have t0 : prog.underlying 32 = some (.slice 52) := by kernel_rfl
    have t3 : prog.underlying 3 = some (.int .i64) := by kernel_rfl
    have z0 : ∀ w, (Go.sizeOf 52).run prog w = .ok 7 w := fun w => by kernel_rfl
    have u0 := run_underlying t0; have u3 := run_underlying t3
    have mixed : prog.follows .mixedOrders = true := mixed_orders
    have hz2 : ¬ ((i : Int) = (n : Int)) := by omega
    have hw1 : IntKind.i64.wrap ((i : Int) + 1) = (i : Int) + 1 := by rw [IntKind.wrap_i64]; omega
    have hb1 : (0 : Int) ≤ (i : Int) + 1 := by omega
    have hin : i ≤ n := by omega
    have htn : ((i : Int) + 1).toNat = i + 1 := by omega
    have hci : ¬ (c = i) := by omega
    have hov := fun lb cb => over_apart (P := prog) (fo := 246) (tb := 4) (e := 52) (size := 7) Proofs.Tryz.func246 (by kernel_rfl) (by kernel_rfl) (by kernel_rfl) (by kernel_rfl) t0 z0 hap vo (off + (i + 1) * 7) vc lb cb
    have hb2 : ¬ (c = i + 1) := by omega
    have hb3 : (i : Int) ≤ (n : Int) + 1 := by omega
    go_enter Proofs.Tryz.func209, Proofs.Tryz.ntmps209
    go_wp2_with (simp only [hov])
    go_region_law_o (refine step_copy_runJ rfl _ _ 32 32 rfl (.slice (some ⟨B, off + (i + 1) * 7, none⟩) (n - i) (c - (i + 1))) (.slice (some ⟨B, off + i * 7, none⟩) (n + 1 - i) (c - i)) (by simp [Act.eval, Act.put]) (by simp [Act.eval, Act.put]) (hA _ _) ?_)
    go_wp2_with (at_builtin; refine wpList_copy_runJ _ rfl _ _ 32 32 rfl _ _ rfl rfl (hB _) ?_)
    go_ret
    exact ⟨rfl, rfl⟩
def R36q : Nat × Entry := (209, insE y17q 56)
theorem F36q : FnOK prog R36q := fn_ins (e := 52) (fn := f209) iw36q
def I37_0q : Spec := ⟨[(0, .c (.dat true y17q)), (3, .c (.lit (.ptr 1001000 0))), (6, .c (.int .i64))], [.box true cs7q], []⟩
def X0_37_0q : Spec := ⟨[(0, .c (.dat true y17q)), (3, .c (.lit (.ptr 1001000 0))), (6, .c (.int .i64))], [.box true cs7q], []⟩
def c37_0q (f : row_Put_L0T) (d : I37_0q.den) : Option row_Put_L0X := f d.1.1.1 d.1.2.2.1.1 (g0_7 d.2.1)
def L37_0q : LoopSum := ⟨I37_0q, [(.exit 1, X0_37_0q)], row_Put_L0X, fun k d => c37_0q (row_Put_L0 k k) d, fun b x _ K => K (.exit 1) (stOf b X0_37_0q (((x.1, ()), (), (x.2.1, ()), ()), ((f0_7 x.2.2 ()), ())))⟩
noncomputable def E37q : Env := ⟨prog, fun _ => false, sumsOf [R30q, R34q, R35q, R36q]⟩
def A37q : Notes := ⟨[], [(6, L37_0q)], true⟩
theorem B37q : EnvB E37q := env_n (l := [R30q, R34q, R35q, R36q]) mixed_orders ⟨F30q, F34q, F35q, F36q, trivial⟩
theorem lk37_0q : LoopOK prog 1000 0 40 (loopAt (bodyOf f157) 0) L37_0q := lp (A := A37q) L37_0q (fun d => (d.1.1.1, d.1.2.2.1.1, (g0_7 d.2.1))) c37_0q row_Put_L0 row_Put_L0b B37q loops0
def R37q : Nat × Entry := entA 157 [.c (.dat true y17q), .agg pc24q] (.tup [(false, [.fro y17q]), (false, rc27q)]) (fun k d => row_Put k d.1 (g1_7 d)) (fun x => (x.1, x.2, ()))
theorem F37q : FnOK prog R37q := fA (rs := .tup [(false, [.fro y17q]), (false, rc27q)]) f157 A37q (fun d => (d.1, d.2.1)) B37q (loops1 lk37_0q)
def R38q : Nat × Entry := entX 86 [.ptr true xc37q, .agg [.int .i64, .int .i64, .int .i64, .int .i64, .int .i64, .int .i64]] (.c (.int .i64)) [rc28q] (fun k d => core_desk_pays k (g0_18 d) (g18_6 d)) (fun x => (x.1, (f0_18 x.2 ())))
theorem F38q : FnOK prog R38q := fX (rs := .c (.int .i64)) (os := [rc28q]) f86 ⟨[], [], true⟩ 1 (fun d => (d.1, (g1_18 d))) (env_n (l := [R16q, R20q, R27q, R37q]) mixed_orders ⟨F16q, F20q, F27q, F37q, trivial⟩) loops0
def R39q : Nat × Entry := entA 158 [.ptr pc20q, .c (.int .i64)] (.tup [(true, rc32q), (false, rc27q)]) (fun k d => core_desk_mine k (g0_18 d) d.2.2.2.2.2.2.2.2.2.2.2.2.2.2.2.2.2.2.1) (fun x => (f0_7 x.1 (x.2, ())))
theorem F39q : FnOK prog R39q := fA (rs := .tup [(true, rc32q), (false, rc27q)]) f158 ⟨[], [], true⟩ (fun d => ((g0_7 d), d.2.2.2.2.2.2.2.1)) (env_n (l := [R30q]) mixed_orders ⟨F30q, trivial⟩) loops0
def R40q : Nat × Entry := entX 211 [.c (.own y17q), .c (.p (.int .i64)), .c (.p (.int .i64))] (.c (.own y17q)) [] (fun k d => slices_Delete_Pay k d.1 d.2.1 d.2.2.1) (fun x => (x, ()))
theorem F40q : FnOK prog R40q := fX (rs := .c (.own y17q)) (os := []) f211 ⟨[], [], false⟩ 0 (fun d => d.1) (env_n (l := []) mixed_orders trivial) loops0
def R41q : Nat × Entry := entA 159 [.c (.dat true y17q), .c (.int .i64)] (.tup [(false, [.fro y17q]), (true, rc32q), (false, rc27q)]) (fun k d => row_Drop k d.1 d.2.1) (fun x => (f0_9 x ()))
theorem F41q : FnOK prog R41q := fA (rs := .tup [(false, [.fro y17q]), (true, rc32q), (false, rc27q)]) f159 ⟨[], [], false⟩ (fun d => (g0_9 d)) (env_n (l := [R30q, R35q, R40q]) mixed_orders ⟨F30q, F35q, F40q, trivial⟩) loops0
def R42q : Nat × Entry := entX 47 [.ptr true xc37q, .c (.p (.int .i64)), .c (.p (.dat false (.int .i64)))] (.tup []) [rc28q] (fun k d => core_desk_tells_v3 k (g0_18 d) d.2.2.2.2.2.2.2.2.2.2.2.2.2.2.2.2.2.2.1 d.2.2.2.2.2.2.2.2.2.2.2.2.2.2.2.2.2.2.2.1) (fun x => (f0_18 x ()))
theorem F42q : FnOK prog R42q := fX (rs := .tup []) (os := [rc28q]) f47 ⟨[], [], true⟩ 1 (fun d => (g0_18 d)) (env_n (l := []) mixed_orders trivial) loops0
def R43q : Nat × Entry := entA 161 [.c (.dat true y17q), .c (.int .i64), .c (.int .i64)] (.tup [(false, [.fro y17q]), (false, rc27q)]) (fun k d => row_Class k d.1 d.2.1 d.2.2.1) (fun x => (x.1, x.2, ()))
theorem F43q : FnOK prog R43q := fA (rs := .tup [(false, [.fro y17q]), (false, rc27q)]) f161 ⟨[], [], true⟩ (fun d => (d.1, d.2.1)) (env_n (l := [R41q, R37q]) mixed_orders ⟨F41q, F37q, trivial⟩) loops0
def R44q : Nat × Entry := entA 159 [.c (.dat false y17q), .c (.int .i64)] (.tup [(false, [.own y17q]), (true, rc32q), (false, rc27q)]) (fun k d => row_Drop_own k d.1 d.2.1) (fun x => (f0_9 x ()))
theorem F44q : FnOK prog R44q := fA (rs := .tup [(false, [.own y17q]), (true, rc32q), (false, rc27q)]) f159 ⟨[], [], false⟩ (fun d => (g0_9 d)) (env_n (l := [R30q, R35q, R40q]) mixed_orders ⟨F30q, F35q, F40q, trivial⟩) loops0
def I45_0q : Spec := ⟨[(6, .c (.lit (.osl 1001000 none))), (7, .c (.lit (.ptr 1001001 0))), (9, .c (.int .i64))], [.arr true y17q, .box true cs7q], []⟩
def X0_45_0q : Spec := ⟨[(6, .c (.lit (.osl 1001000 none))), (7, .c (.lit (.ptr 1001001 0))), (9, .c (.int .i64))], [.arr true y17q, .box true cs7q], []⟩
def c45_0q (f : row_Front_L0T) (d : I45_0q.den) : Option row_Front_L0X := f d.1.2.2.1.1 d.2.1 (g0_7 d.2.2.1)
def L45_0q : LoopSum := ⟨I45_0q, [(.exit 0, X0_45_0q)], row_Front_L0X, fun k d => c45_0q (row_Front_L0 k k) d, fun b x _ K => K (.exit 0) (stOf b X0_45_0q (((), (), (x.1, ()), ()), (x.2.1, (f0_7 x.2.2 ()), ())))⟩
noncomputable def E45q : Env := ⟨prog, fun _ => false, sumsOf [R44q, R34q, R36q]⟩
def A45q : Notes := ⟨[], [(5, L45_0q)], true⟩
theorem B45q : EnvB E45q := env_n (l := [R44q, R34q, R36q]) mixed_orders ⟨F44q, F34q, F36q, trivial⟩
theorem lk45_0q : LoopOK prog 1000 0 41 (loopAt (bodyOf f162) 0) L45_0q := lp (A := A45q) L45_0q (fun d => (d.1.2.2.1.1, d.2.1, (g0_7 d.2.2.1))) c45_0q row_Front_L0 row_Front_L0b B45q loops0
def R45q : Nat × Entry := entA 162 [.c (.dat true y17q), .c (.int .i64)] (.tup [(false, [.fro y17q]), (false, rc27q)]) (fun k d => row_Front k d.1 d.2.1) (fun x => (x.1, x.2, ()))
theorem F45q : FnOK prog R45q := fA (rs := .tup [(false, [.fro y17q]), (false, rc27q)]) f162 A45q (fun d => (d.1, d.2.1)) B45q (loops1 lk45_0q)
def R46q : Nat × Entry := entA 163 [.c (.dat true y17q), .c (.int .i64)] (.tup [(false, [.fro y17q]), (false, rc27q)]) (fun k d => row_Back k d.1 d.2.1) (fun x => (x.1, x.2, ()))
theorem F46q : FnOK prog R46q := fA (rs := .tup [(false, [.fro y17q]), (false, rc27q)]) f163 ⟨[], [], true⟩ (fun d => (d.1, d.2.1)) (env_n (l := [R41q, R37q]) mixed_orders ⟨F41q, F37q, trivial⟩) loops0
def R47q : Nat × Entry := entX 87 [.ptr true xc37q, .agg pc24q] (.c (.int .i64)) [rc28q] (fun k d => core_desk_waits k (g0_18 d) (g18_7 d)) (fun x => (x.1, (f0_18 x.2 ())))
theorem F47q : FnOK prog R47q := fX (rs := .c (.int .i64)) (os := [rc28q]) f87 ⟨[], [], true⟩ 1 (fun d => (d.1, (g1_18 d))) (env_n (l := [R39q, R41q, R42q, R16q, R19q, R43q, R45q, R46q]) mixed_orders ⟨F39q, F41q, F42q, F16q, F19q, F43q, F45q, F46q, trivial⟩) loops0
def R48q : Nat × Entry := entC 212 false y7q (.own y7q) slices_Clone_Acct
theorem F48q : FnOK prog R48q := fC f212 ⟨[], [], false⟩ (env_n (l := []) mixed_orders trivial) loops0
def R49q : Nat × Entry := entC 167 true (.sl (.int .i64)) (.jun) slices_Clone_Rowint64
theorem F49q : FnOK prog R49q := fC f167 ⟨[], [], false⟩ (env_n (l := []) mixed_orders trivial) loops0
def I50_0q : Spec := ⟨[(3, .c (.lit (.osl 1001000 none))), (8, .c (.dat true (.sl (.int .i64)))), (9, .c (.int .i64)), (10, .c (.int .i64))], [.pmat], []⟩
def X0_50_0q : Spec := ⟨[(3, .c (.lit (.osl 1001000 none)))], [.pmat], []⟩
def c50_0q (f : lim_copied_L0T) (d : I50_0q.den) : Option ((List (List Int)) × Nat) := f d.1.2.1.1 d.1.2.2.1.1 d.1.2.2.2.1.1 d.2.1.1 d.2.1.2
def L50_0q : LoopSum := ⟨I50_0q, [(.exit 0, X0_50_0q)], ((List (List Int)) × Nat), fun k d => c50_0q (lim_copied_L0 k k) d, fun b x _ K => K (.exit 0) (stOf b X0_50_0q (((), ()), ((x.1, x.2), ())))⟩
noncomputable def E50q : Env := ⟨prog, fun _ => false, sumsOf [R49q, R25q]⟩
def A50q : Notes := ⟨[], [(3, L50_0q)], false⟩
theorem B50q : EnvB E50q := env_n (l := [R49q, R25q]) mixed_orders ⟨F49q, F25q, trivial⟩
theorem lk50_0q : LoopOK prog 1000 0 22 (loopAt (bodyOf f213) 0) L50_0q := lp (A := A50q) L50_0q (fun d => d.2.1) c50_0q lim_copied_L0 lim_copied_L0b B50q loops0
def R50q : Nat × Entry := entA 213 [.c (.dat true (.sl (.int .i64)))] (.c (.mat)) (fun k d => lim_copied k d.1) (fun x => (x, ()))
theorem F50q : FnOK prog R50q := fA (rs := .c (.mat)) f213 A50q (fun d => d.1) B50q (loops1 lk50_0q)
def R51q : Nat × Entry := entA 164 [.agg [.dat false y7q, .dat true (.sl (.int .i64)), .dat false (.int .i64), .dat true (.sl (.int .i64))]] (.agg [.own y7q, .mat, .own (.int .i64), .mat]) (fun k d => (u0_4 (lim_Copy k) d)) (fun x => (f0_4 x ()))
theorem F51q : FnOK prog R51q := fA (rs := .agg [.own y7q, .mat, .own (.int .i64), .mat]) f164 ⟨[], [], false⟩ (fun d => (g0_4 d)) (env_n (l := [R48q, R50q, R25q]) mixed_orders ⟨F48q, F50q, F25q, trivial⟩) loops0
def R52q : Nat × Entry := entA 165 [.ptr pc20q, .c (.int .i64)] (.c (.bool)) (fun k d => core_desk_isOther k (g0_18 d) d.2.2.2.2.2.2.2.2.2.2.2.2.2.2.2.2.2.2.1) (fun x => (x, ()))
theorem F52q : FnOK prog R52q := fA (rs := .c (.bool)) f165 ⟨[], [], true⟩ (fun d => d.1) (env_n (l := [R16q]) mixed_orders ⟨F16q, trivial⟩) loops0
def R53q : Nat × Entry := entX 88 [.ptr true xc37q, .agg pc24q] (.c (.int .i64)) [rc28q] (fun k d => core_desk_limits k (g0_18 d) (g18_7 d)) (fun x => (x.1, (f0_18 x.2 ())))
theorem F53q : FnOK prog R53q := fX (rs := .c (.int .i64)) (os := [rc28q]) f88 ⟨[], [], true⟩ 1 (fun d => (d.1, (g1_18 d))) (env_n (l := [R51q, R52q, R16q]) mixed_orders ⟨F51q, F52q, F16q, trivial⟩) loops0
def R54q : Nat × Entry := entA 166 [.ptr pc20q, .c (.int .i64)] (.c (.bool)) (fun k d => core_desk_isAsset k (g0_18 d) d.2.2.2.2.2.2.2.2.2.2.2.2.2.2.2.2.2.2.1) (fun x => (x, ()))
theorem F54q : FnOK prog R54q := fA (rs := .c (.bool)) f166 ⟨[], [], true⟩ (fun d => d.1) (env_n (l := [R16q]) mixed_orders ⟨F16q, trivial⟩) loops0
def R55q : Nat × Entry := entC 167 true (.sl (.int .i64)) (.own (.sl (.int .i64))) slices_Clone_Rowint64_v2
theorem F55q : FnOK prog R55q := fC f167 ⟨[], [], false⟩ (env_n (l := []) mixed_orders trivial) loops0
def R56q : Nat × Entry := entA 168 [.c (.dat false (.int .i64)), .c (.int .i64), .c (.int .i64)] (.c (.own (.int .i64))) (fun k d => pool_Set k d.1 d.2.1 d.2.2.1) (fun x => (x, ()))
theorem F56q : FnOK prog R56q := fA (rs := .c (.own (.int .i64))) f168 ⟨[], [], true⟩ (fun d => d.1) (env_n (l := [R25q]) mixed_orders ⟨F25q, trivial⟩) loops0
def R57q : Nat × Entry := entA 227 [.c (.int .i64)] (.c (.bool)) (fun k d => cash_isCut k d.1) (fun x => (x, ()))
theorem F57q : FnOK prog R57q := fA (rs := .c (.bool)) f227 ⟨[], [], true⟩ (fun d => d.1) (env_n (l := []) mixed_orders trivial) loops0
def R58q : Nat × Entry := entA 228 [.c (.int .u64), .c (.int .u64)] (.tup [(false, [.int .u64]), (false, [.int .u64])]) (fun k d => math_bits_Mul64 k d.1 d.2.1) (fun x => (x.1, x.2, ()))
theorem F58q : FnOK prog R58q := fA (rs := .tup [(false, [.int .u64]), (false, [.int .u64])]) f228 ⟨[], [], true⟩ (fun d => (d.1, d.2.1)) (env_n (l := []) mixed_orders trivial) loops0
def R59q : Nat × Entry := entA 264 [.c (.int .u64)] (.c (.int .i64)) (fun k d => math_bits_Len64 k d.1) (fun x => (x, ()))
theorem F59q : FnOK prog R59q := fA (rs := .c (.int .i64)) f264 ⟨[], [], true⟩ (fun d => d.1) (env_n (l := []) mixed_orders trivial) loops0
def R60q : Nat × Entry := entA 254 [.c (.int .u64)] (.c (.int .i64)) (fun k d => math_bits_LeadingZeros64 k d.1) (fun x => (x, ()))
theorem F60q : FnOK prog R60q := fA (rs := .c (.int .i64)) f254 ⟨[], [], true⟩ (fun d => d.1) (env_n (l := [R59q]) mixed_orders ⟨F59q, trivial⟩) loops0
def I61_0q : Spec := ⟨[(2, .c (.int .u64)), (8, .c (.int .u64)), (9, .c (.int .u64)), (10, .c (.int .u64)), (11, .c (.int .u64)), (13, .c (.int .u64)), (14, .c (.int .u64)), (15, .c (.int .u64)), (16, .c (.int .u64))], [], []⟩
def X0_61_0q : Spec := ⟨[(2, .c (.int .u64)), (8, .c (.int .u64)), (9, .c (.int .u64)), (10, .c (.int .u64)), (11, .c (.int .u64)), (13, .c (.int .u64)), (14, .c (.int .u64)), (15, .c (.int .u64))], [], []⟩
def c61_0q (f : math_bits_Div64_L0T) (d : I61_0q.den) : Option math_bits_Div64_L0X := f d.1.1.1 d.1.2.1.1 d.1.2.2.1.1 d.1.2.2.2.1.1 d.1.2.2.2.2.1.1 d.1.2.2.2.2.2.1.1 d.1.2.2.2.2.2.2.1.1 d.1.2.2.2.2.2.2.2.1.1 d.1.2.2.2.2.2.2.2.2.1.1
def L61_0q : LoopSum := ⟨I61_0q, [(.exit 0, X0_61_0q)], math_bits_Div64_L0X, fun k d => c61_0q (math_bits_Div64_L0 k k) d, fun b x _ K => K (.exit 0) (stOf b X0_61_0q (((x.1, ()), (x.2.1, ()), (x.2.2.1, ()), (x.2.2.2.1, ()), (x.2.2.2.2.1, ()), (x.2.2.2.2.2.1, ()), (x.2.2.2.2.2.2.1, ()), (x.2.2.2.2.2.2.2, ()), ()), ()))⟩
def I61_1q : Spec := ⟨[(2, .c (.int .u64)), (8, .c (.int .u64)), (9, .c (.int .u64)), (10, .c (.int .u64)), (14, .c (.int .u64)), (15, .c (.int .u64)), (16, .c (.int .u64)), (17, .c (.int .u64)), (18, .c (.int .u64))], [], []⟩
def X0_61_1q : Spec := ⟨[(2, .c (.int .u64)), (8, .c (.int .u64)), (14, .c (.int .u64)), (15, .c (.int .u64)), (17, .c (.int .u64)), (18, .c (.int .u64))], [], []⟩
def c61_1q (f : math_bits_Div64_L1T) (d : I61_1q.den) : Option math_bits_Div64_L1X := f d.1.1.1 d.1.2.1.1 d.1.2.2.1.1 d.1.2.2.2.1.1 d.1.2.2.2.2.1.1 d.1.2.2.2.2.2.1.1 d.1.2.2.2.2.2.2.1.1 d.1.2.2.2.2.2.2.2.1.1 d.1.2.2.2.2.2.2.2.2.1.1
def L61_1q : LoopSum := ⟨I61_1q, [(.exit 2, X0_61_1q)], math_bits_Div64_L1X, fun k d => c61_1q (math_bits_Div64_L1 k k) d, fun b x _ K => K (.exit 2) (stOf b X0_61_1q (((x.1, ()), (x.2.1, ()), (x.2.2.1, ()), (x.2.2.2.1, ()), (x.2.2.2.2.1, ()), (x.2.2.2.2.2, ()), ()), ()))⟩
noncomputable def E61q : Env := ⟨prog, fun _ => false, sumsOf [R60q]⟩
def A61q : Notes := ⟨[], [(17, L61_0q), (24, L61_1q)], true⟩
theorem B61q : EnvB E61q := env_n (l := [R60q]) mixed_orders ⟨F60q, trivial⟩
theorem lk61_0q : LoopOK prog 1000 0 135 (loopAt (bodyOf f229) 0) L61_0q := lp (A := A61q) L61_0q (fun d => (d.1.1.1, d.1.2.1.1, d.1.2.2.1.1, d.1.2.2.2.1.1, d.1.2.2.2.2.1.1, d.1.2.2.2.2.2.1.1, d.1.2.2.2.2.2.2.1.1, d.1.2.2.2.2.2.2.2.1.1)) c61_0q math_bits_Div64_L0 math_bits_Div64_L0b B61q loops0
theorem lk61_1q : LoopOK prog 1000 0 135 (loopAt (bodyOf f229) 1) L61_1q := lp (A := A61q) L61_1q (fun d => (d.1.1.1, d.1.2.1.1, d.1.2.2.1.1, d.1.2.2.2.1.1, d.1.2.2.2.2.1.1, d.1.2.2.2.2.2.1.1)) c61_1q math_bits_Div64_L1 math_bits_Div64_L1b B61q loops0
def R61q : Nat × Entry := entA 229 [.c (.int .u64), .c (.int .u64), .c (.int .u64)] (.tup [(false, [.int .u64]), (false, [.int .u64])]) (fun k d => math_bits_Div64 k d.1 d.2.1 d.2.2.1) (fun x => (x.1, x.2, ()))
theorem F61q : FnOK prog R61q := fA (rs := .tup [(false, [.int .u64]), (false, [.int .u64])]) f229 A61q (fun d => (d.1, d.2.1)) B61q (loopsOK_of (n := 2) (by kernel_rfl) fun i hi => match i, hi with | 0, _ => ⟨L61_0q, by kernel_rfl, lk61_0q⟩ | 1, _ => ⟨L61_1q, by kernel_rfl, lk61_1q⟩ | i + 2, hi => absurd hi (by omega))
def R62q : Nat × Entry := (133, add64E)
theorem F62q : FnOK prog R62q := fn_add64 (fn := f133)
def R63q : Nat × Entry := entA 191 [.c (.int .i64), .c (.int .i64), .c (.int .i64)] (.tup [(false, rc27q), (false, [.bool])]) (fun k d => cash_Worth k d.1 d.2.1 d.2.2.1) (fun x => (x.1, x.2, ()))
theorem F63q : FnOK prog R63q := fA (rs := .tup [(false, rc27q), (false, [.bool])]) f191 ⟨[], [], true⟩ (fun d => (d.1, d.2.1)) (env_n (l := [R57q, R58q, R61q, R62q]) mixed_orders ⟨F57q, F58q, F61q, F62q, trivial⟩) loops0
def I64_0q : Spec := ⟨[(4, .c (.int .i64)), (5, .c (.int .u64)), (9, .c (.dat false (.int .i64))), (10, .c (.int .i64)), (11, .c (.int .i64))], [], []⟩
def X0_64_0q : Spec := ⟨[(4, .c (.int .i64)), (5, .c (.int .u64))], [], []⟩
def c64_0q (f : cash_Sum_L0T) (d : I64_0q.den) : Option K5q := f d.1.1.1 d.1.2.1.1 d.1.2.2.1.1 d.1.2.2.2.1.1 d.1.2.2.2.2.1.1
def L64_0q : LoopSum := ⟨I64_0q, [(.exit 0, X0_64_0q)], K5q, fun k d => c64_0q (cash_Sum_L0 k k) d, fun b x _ K => K (.exit 0) (stOf b X0_64_0q (((x.1, ()), (x.2, ()), ()), ()))⟩
noncomputable def E64q : Env := ⟨prog, fun _ => false, sumsOf [R62q]⟩
def A64q : Notes := ⟨[], [(4, L64_0q)], false⟩
theorem B64q : EnvB E64q := env_n (l := [R62q]) mixed_orders ⟨F62q, trivial⟩
theorem lk64_0q : LoopOK prog 1000 0 37 (loopAt (bodyOf f68) 0) L64_0q := lp (A := A64q) L64_0q (fun d => (d.1.1.1, d.1.2.1.1)) c64_0q cash_Sum_L0 cash_Sum_L0b B64q loops0
def R64q : Nat × Entry := entA 68 [.c (.dat false (.int .i64))] (.tup [(false, rc27q), (false, [.bool])]) (fun k d => cash_Sum k d.1) (fun x => (x.1, x.2, ()))
theorem F64q : FnOK prog R64q := fA (rs := .tup [(false, rc27q), (false, [.bool])]) f68 A64q (fun d => (d.1, d.2.1)) B64q (loops1 lk64_0q)
def I65_0q : Spec := ⟨[(1, .c (.dat false (.int .i64))), (2, .c (.dat false (.int .i64))), (8, .c (.lit (.osl 1001000 none))), (25, .c (.dat false y0q)), (26, .c (.int .i64)), (27, .c (.int .i64))], [.arr true (.int .i64)], [(8, none, (.int .i64), false)]⟩
def X0_65_0q : Spec := ⟨[(8, .c (.lit (.osl 1001000 none)))], [.arr true (.int .i64)], []⟩
def X1_65_0q : Spec := ⟨[(6, .c (.int .i64)), (7, .c (.bool))], [], []⟩
def c65_0q (f : pool_Value_L0T) (d : I65_0q.den) : Option ((List Int) ⊕ (Int × Bool)) := f d.1.1.1 d.1.2.1.1 d.1.2.2.2.1.1 d.1.2.2.2.2.1.1 d.1.2.2.2.2.2.1.1 d.2.1
def L65_0q : LoopSum := ⟨I65_0q, [(.exit 0, X0_65_0q), (.ret, X1_65_0q)], ((List Int) ⊕ (Int × Bool)), fun k d => c65_0q (pool_Value_L0 k k) d, fun b x _ K => match x with | .inl x => K (.exit 0) (stOf b X0_65_0q (((), ()), (x, ()))) | .inr x => K .ret (stOf b X1_65_0q (((x.1, ()), (x.2, ()), ()), ()))⟩
noncomputable def E65q : Env := ⟨prog, fun _ => false, sumsOf [R63q, R64q]⟩
def A65q : Notes := ⟨[], [(5, L65_0q)], true⟩
theorem B65q : EnvB E65q := env_n (l := [R63q, R64q]) mixed_orders ⟨F63q, F64q, trivial⟩
theorem lk65_0q : LoopOK prog 1000 0 57 (loopAt (bodyOf f125) 0) L65_0q := lp (A := A65q) L65_0q (fun d => match d with | .inl d => .inl d.2.1 | .inr d => .inr (d.1.1.1, d.1.2.1.1)) c65_0q pool_Value_L0 pool_Value_L0b B65q loops0
def R65q : Nat × Entry := entA 125 [.c (.dat false y0q), .c (.dat false (.int .i64)), .c (.dat false (.int .i64))] (.tup [(false, rc27q), (false, [.bool])]) (fun k d => pool_Value k d.1 d.2.1 d.2.2.1) (fun x => (x.1, x.2, ()))
theorem F65q : FnOK prog R65q := fA (rs := .tup [(false, rc27q), (false, [.bool])]) f125 A65q (fun d => (d.1, d.2.1)) B65q (loops1 lk65_0q)
def R66q : Nat × Entry := entX 89 [.ptr true xc37q, .c (.p (.int .i64)), .c (.p (.int .i64))] (.c (.int .i64)) [rc28q] (fun k d => core_desk_holds k (g0_18 d) d.2.2.2.2.2.2.2.2.2.2.2.2.2.2.2.2.2.2.1 d.2.2.2.2.2.2.2.2.2.2.2.2.2.2.2.2.2.2.2.1) (fun x => (x.1, (f0_18 x.2 ())))
theorem F66q : FnOK prog R66q := fX (rs := .c (.int .i64)) (os := [rc28q]) f89 ⟨[], [], true⟩ 1 (fun d => (d.1, (g1_18 d))) (env_n (l := [R54q, R16q, R55q, R56q, R65q, R51q]) mixed_orders ⟨F54q, F16q, F55q, F56q, F65q, F51q, trivial⟩) loops0
def R67q : Nat × Entry := entA 201 [.c (.int .i64), .c (.int .i64)] (.tup [(false, rc27q), (false, [.bool])]) (fun k d => cash_Add k d.1 d.2.1) (fun x => (x.1, x.2, ()))
theorem F67q : FnOK prog R67q := fA (rs := .tup [(false, rc27q), (false, [.bool])]) f201 ⟨[], [], false⟩ (fun d => (d.1, d.2.1)) (env_n (l := []) mixed_orders trivial) loops0
def R68q : Nat × Entry := entA 116 [.agg pc23q] (.c (.bool)) (fun k d => acct_Is k d.1 d.2.1 d.2.2.1) (fun x => (x, ()))
theorem F68q : FnOK prog R68q := fA (rs := .c (.bool)) f116 ⟨[], [], false⟩ (fun d => d.1) (env_n (l := []) mixed_orders trivial) loops0
def R69q : Nat × Entry := entA 214 [.agg pc23q, .c (.int .i64)] (.tup [(true, rc31q), (false, rc27q)]) (fun k d => acct_moved k (d.1, d.2.1, d.2.2.1) d.2.2.2.1) (fun x => (x.1.1, x.1.2.1, x.1.2.2, x.2, ()))
theorem F69q : FnOK prog R69q := fA (rs := .tup [(true, rc31q), (false, rc27q)]) f214 ⟨[], [], true⟩ (fun d => ((d.1, d.2.1, d.2.2.1), d.2.2.2.1)) (env_n (l := [R67q, R68q]) mixed_orders ⟨F67q, F68q, trivial⟩) loops0
def R70q : Nat × Entry := entA 169 [.agg pc23q, .c (.int .i64)] (.tup [(true, rc31q), (false, rc27q)]) (fun k d => acct_In k (d.1, d.2.1, d.2.2.1) d.2.2.2.1) (fun x => (x.1.1, x.1.2.1, x.1.2.2, x.2, ()))
theorem F70q : FnOK prog R70q := fA (rs := .tup [(true, rc31q), (false, rc27q)]) f169 ⟨[], [], true⟩ (fun d => ((d.1, d.2.1, d.2.2.1), d.2.2.2.1)) (env_n (l := [R69q]) mixed_orders ⟨F69q, trivial⟩) loops0
def R71q : Nat × Entry := entA 215 [.agg pc23q, .c (.int .i64)] (.c (.int .i64)) (fun k d => (u0_4 (acct_Kept k) d)) (fun x => (x, ()))
theorem F71q : FnOK prog R71q := fA (rs := .c (.int .i64)) f215 ⟨[], [], false⟩ (fun d => d.1) (env_n (l := []) mixed_orders trivial) loops0
def R72q : Nat × Entry := entA 170 [.agg pc23q, .c (.int .i64), .c (.int .i64)] (.tup [(true, rc31q), (false, rc27q)]) (fun k d => acct_Out k (d.1, d.2.1, d.2.2.1) d.2.2.2.1 d.2.2.2.2.1) (fun x => (x.1.1, x.1.2.1, x.1.2.2, x.2, ()))
theorem F72q : FnOK prog R72q := fA (rs := .tup [(true, rc31q), (false, rc27q)]) f170 ⟨[], [], true⟩ (fun d => ((d.1, d.2.1, d.2.2.1), d.2.2.2.1)) (env_n (l := [R69q, R71q]) mixed_orders ⟨F69q, F71q, trivial⟩) loops0
def R73q : Nat × Entry := entA 171 [.agg pc23q, .c (.int .i64)] (.c (.int .i64)) (fun k d => acct_Room k (d.1, d.2.1, d.2.2.1) d.2.2.2.1) (fun x => (x, ()))
theorem F73q : FnOK prog R73q := fA (rs := .c (.int .i64)) f171 ⟨[], [], true⟩ (fun d => d.1) (env_n (l := []) mixed_orders trivial) loops0
def R74q : Nat × Entry := entX 90 [.ptr true xc37q, .c (.p (.int .i64)), .c (.p (.int .i64)), .c (.p (.int .i64))] (.c (.int .i64)) [rc28q] (fun k d => core_desk_moves k (g0_18 d) d.2.2.2.2.2.2.2.2.2.2.2.2.2.2.2.2.2.2.1 d.2.2.2.2.2.2.2.2.2.2.2.2.2.2.2.2.2.2.2.1 d.2.2.2.2.2.2.2.2.2.2.2.2.2.2.2.2.2.2.2.2.1) (fun x => (x.1, (f0_18 x.2 ())))
theorem F74q : FnOK prog R74q := fX (rs := .c (.int .i64)) (os := [rc28q]) f90 ⟨[], [], true⟩ 1 (fun d => (d.1, (g1_18 d))) (env_n (l := [R16q, R70q, R72q, R73q, R51q]) mixed_orders ⟨F16q, F70q, F72q, F73q, F51q, trivial⟩) loops0
def I75_0q : Spec := ⟨[(0, .c (.lit (.ptr 1001000 0))), (7, .c (.lit (.osl 1001002 none))), (8, .c (.lit (.ptr 1001003 0))), (40, .c (.dat true (.sl (.int .i64)))), (41, .c (.int .i64)), (42, .c (.int .i64))], [.box true cs4q, .arr true y18q, .arr true (.int .i64), .box true cs14q, .arr true y7q, .mat, .arr true (.int .i64), .mat], []⟩
def X0_75_0q : Spec := ⟨[(0, .c (.lit (.ptr 1001000 0))), (7, .c (.lit (.osl 1001002 none))), (8, .c (.lit (.ptr 1001003 0)))], [.box true cs4q, .arr true y18q, .arr true (.int .i64), .box true cs14q, .arr true y7q, .mat, .arr true (.int .i64), .mat], []⟩
def X1_75_0q : Spec := ⟨[(0, .c (.lit (.ptr 1001000 0))), (6, .c (.int .i64))], [.box true cs4q, .arr true y18q], []⟩
def c75_0q (f : core_desk_price_L0T) (d : I75_0q.den) : Option core_desk_price_L0X := f d.1.2.2.2.1.1 d.1.2.2.2.2.1.1 d.1.2.2.2.2.2.1.1 (g0_17 d.2.1) d.2.2.1 d.2.2.2.1 d.2.2.2.2.2.1 d.2.2.2.2.2.2.1 d.2.2.2.2.2.2.2.1 d.2.2.2.2.2.2.2.2.1
def L75_0q : LoopSum := ⟨I75_0q, [(.exit 0, X0_75_0q), (.ret, X1_75_0q)], core_desk_price_L0X, fun k d => c75_0q (core_desk_price_L0 k k) d, fun b x _ K => match x with | .inl x => K (.exit 0) (stOf b X0_75_0q (((), (), (), ()), ((f0_17 x.1 ()), x.2.1, x.2.2.1, (), x.2.2.2.1, x.2.2.2.2.1, x.2.2.2.2.2.1, x.2.2.2.2.2.2, ()))) | .inr x => K .ret (stOf b X1_75_0q (((), (x.1, ()), ()), ((f0_17 x.2.1 ()), x.2.2, ())))⟩
noncomputable def E75q : Env := ⟨prog, fun _ => false, sumsOf [R54q, R16q, R56q, R51q, R65q]⟩
def A75q : Notes := ⟨[], [(6, L75_0q)], true⟩
theorem B75q : EnvB E75q := env_n (l := [R54q, R16q, R56q, R51q, R65q]) mixed_orders ⟨F54q, F16q, F56q, F51q, F65q, trivial⟩
theorem lk75_0q : LoopOK prog 1000 1 81 (loopAt (bodyOf f91) 0) L75_0q := lp (A := A75q) L75_0q (fun d => match d with | .inl d => .inl ((g0_17 d.2.1), d.2.2.1, d.2.2.2.1, d.2.2.2.2.2.1, d.2.2.2.2.2.2.1, d.2.2.2.2.2.2.2.1, d.2.2.2.2.2.2.2.2.1) | .inr d => .inr (d.1.2.1.1, (g0_17 d.2.1), d.2.2.1)) c75_0q core_desk_price_L0 core_desk_price_L0b B75q loops0
def R75q : Nat × Entry := entX 91 [.ptr true xc37q, .c (.p (.int .i64)), .c (.p (.int .i64))] (.c (.int .i64)) [rc28q] (fun k d => core_desk_price k (g0_18 d) d.2.2.2.2.2.2.2.2.2.2.2.2.2.2.2.2.2.2.1 d.2.2.2.2.2.2.2.2.2.2.2.2.2.2.2.2.2.2.2.1) (fun x => (x.1, (f0_18 x.2 ())))
theorem F75q : FnOK prog R75q := fX (rs := .c (.int .i64)) (os := [rc28q]) f91 A75q 1 (fun d => (d.1, (g1_18 d))) B75q (loops1 lk75_0q)
def R76q : Nat × Entry := entX 48 [.ptr true xc37q, .agg pc24q] (.c (.int .i64)) [rc28q] (fun k d => core_desk_does k (g0_18 d) (g18_7 d)) (fun x => (x.1, (f0_18 x.2 ())))
theorem F76q : FnOK prog R76q := fX (rs := .c (.int .i64)) (os := [rc28q]) f48 ⟨[], [], true⟩ 1 (fun d => (d.1, (g1_18 d))) (env_n (l := [R38q, R47q, R53q, R66q, R74q, R75q]) mixed_orders ⟨F38q, F47q, F53q, F66q, F74q, F75q, trivial⟩) loops0
def R77q : Nat × Entry := entA 69 [.agg pc19q, .c (.int .i64)] (.c (.bool)) (fun k d => (u0_6 (day_Closes k) d)) (fun x => (x, ()))
theorem F77q : FnOK prog R77q := fA (rs := .c (.bool)) f69 ⟨[], [], false⟩ (fun d => d.1) (env_n (l := []) mixed_orders trivial) loops0
def R78q : Nat × Entry := entA 94 [.c (.int .i64), .c (.int .i64), .c (.dat false (.int .i64))] (.agg rc33q) (fun k d => hour_out k d.1 d.2.1 d.2.2.1) (fun x => (f0_8 x ()))
theorem F78q : FnOK prog R78q := fA (rs := .agg rc33q) f94 ⟨[], [], false⟩ (fun d => (g0_8 d)) (env_n (l := []) mixed_orders trivial) loops0
def I79_0q : Spec := ⟨[(1, .c (.lit (.ptr 1001000 0))), (2, .c (.lit (.ptr 1001001 0))), (4, .c (.lit (.osl 1001002 none))), (10, .c (.dat true y17q)), (11, .c (.int .i64)), (12, .c (.int .i64))], [.box true cs6q, .box true cs11q, .arr true y18q], [(4, none, y18q, false)]⟩
def X0_79_0q : Spec := ⟨[(1, .c (.lit (.ptr 1001000 0))), (2, .c (.lit (.ptr 1001001 0))), (4, .c (.lit (.osl 1001002 none)))], [.box true cs6q, .box true cs11q, .arr true y18q], []⟩
def c79_0q (f : hour_ends_L0T) (d : I79_0q.den) : Option hour_ends_L0X := (u0_11 (f d.1.2.2.2.1.1 d.1.2.2.2.2.1.1 d.1.2.2.2.2.2.1.1) d.2.1) d.2.2.1.1 d.2.2.1.2.1 d.2.2.1.2.2.1 d.2.2.2.1
def L79_0q : LoopSum := ⟨I79_0q, [(.exit 0, X0_79_0q)], hour_ends_L0X, fun k d => c79_0q (hour_ends_L0 k k) d, fun b x _ K => K (.exit 0) (stOf b X0_79_0q (((), (), (), ()), ((j0_11 x ()), (x.2.2.2.2.2.2.2.2.2.2.2.1, x.2.2.2.2.2.2.2.2.2.2.2.2.1, x.2.2.2.2.2.2.2.2.2.2.2.2.2.1, ()), x.2.2.2.2.2.2.2.2.2.2.2.2.2.2, ())))⟩
def I79_1q : Spec := ⟨[(1, .c (.lit (.ptr 1001000 0))), (2, .c (.lit (.ptr 1001001 0))), (4, .c (.lit (.osl 1001002 none))), (28, .c (.dat true y7q)), (29, .c (.int .i64)), (30, .c (.int .i64))], [.box true cs6q, .box true cs11q, .arr true y18q], []⟩
def X0_79_1q : Spec := ⟨[(1, .c (.lit (.ptr 1001000 0))), (2, .c (.lit (.ptr 1001001 0))), (4, .c (.lit (.osl 1001002 none)))], [.box true cs6q, .box true cs11q, .arr true y18q], []⟩
def c79_1q (f : hour_ends_L1T) (d : I79_1q.den) : Option hour_ends_L1X := (u0_11 (f d.1.2.2.2.1.1 d.1.2.2.2.2.1.1 d.1.2.2.2.2.2.1.1) d.2.1) d.2.2.1.1 d.2.2.1.2.1 d.2.2.1.2.2.1 d.2.2.2.1
def L79_1q : LoopSum := ⟨I79_1q, [(.exit 2, X0_79_1q)], hour_ends_L1X, fun k d => c79_1q (hour_ends_L1 k k) d, fun b x _ K => K (.exit 2) (stOf b X0_79_1q (((), (), (), ()), ((j0_11 x ()), (x.2.2.2.2.2.2.2.2.2.2.2.1, x.2.2.2.2.2.2.2.2.2.2.2.2.1, x.2.2.2.2.2.2.2.2.2.2.2.2.2.1, ()), x.2.2.2.2.2.2.2.2.2.2.2.2.2.2, ())))⟩
noncomputable def E79q : Env := ⟨prog, fun _ => false, sumsOf [R78q]⟩
def A79q : Notes := ⟨[], [(3, L79_0q), (8, L79_1q)], false⟩
theorem B79q : EnvB E79q := env_n (l := [R78q]) mixed_orders ⟨F78q, trivial⟩
theorem lk79_0q : LoopOK prog 1000 0 48 (loopAt (bodyOf f92) 0) L79_0q := lp (A := A79q) L79_0q (fun d => (j0_11 d.2.1 (d.2.2.1.1, d.2.2.1.2.1, d.2.2.1.2.2.1, d.2.2.2.1))) c79_0q hour_ends_L0 hour_ends_L0b B79q loops0
theorem lk79_1q : LoopOK prog 1000 0 48 (loopAt (bodyOf f92) 1) L79_1q := lp (A := A79q) L79_1q (fun d => (j0_11 d.2.1 (d.2.2.1.1, d.2.2.1.2.1, d.2.2.1.2.2.1, d.2.2.2.1))) c79_1q hour_ends_L1 hour_ends_L1b B79q loops0
def R79q : Nat × Entry := entA 92 [.agg pc22q] (.tup [(true, rc30q), (false, [.own y18q])]) (fun k d => (u0_11 (hour_ends k) d)) (fun x => (f0_12 x ()))
theorem F79q : FnOK prog R79q := fA (rs := .tup [(true, rc30q), (false, [.own y18q])]) f92 A79q (fun d => (g0_12 d)) B79q (loopsOK_of (n := 2) (by kernel_rfl) fun i hi => match i, hi with | 0, _ => ⟨L79_0q, by kernel_rfl, lk79_0q⟩ | 1, _ => ⟨L79_1q, by kernel_rfl, lk79_1q⟩ | i + 2, hi => absurd hi (by omega))
def R80q : Nat × Entry := entA 93 [.agg pc24q, .c (.int .i64)] (.c (.bool)) (fun k d => (u0_8 (pay_Late k) d)) (fun x => (x, ()))
theorem F80q : FnOK prog R80q := fA (rs := .c (.bool)) f93 ⟨[], [], false⟩ (fun d => d.1) (env_n (l := []) mixed_orders trivial) loops0
def R81q : Nat × Entry := entA 95 [.agg pc19q, .c (.int .i64)] (.c (.bool)) (fun k d => (u0_6 (day_Solves k) d)) (fun x => (x, ()))
theorem F81q : FnOK prog R81q := fA (rs := .c (.bool)) f95 ⟨[], [], false⟩ (fun d => d.1) (env_n (l := []) mixed_orders trivial) loops0
def R82q : Nat × Entry := entA 252 [.agg pc24q, .c (.int .i64)] (.c (.bool)) (fun k d => (u0_8 (pay_Ready k) d)) (fun x => (x, ()))
theorem F82q : FnOK prog R82q := fA (rs := .c (.bool)) f252 ⟨[], [], false⟩ (fun d => d.1) (env_n (l := []) mixed_orders trivial) loops0
def R83q : Nat × Entry := entA 251 [.agg pc24q, .ptr [.int .i64]] (.c (.bool)) (fun k d => (u0_8 (view_Ready_fn1 k) d)) (fun x => (x, ()))
theorem F83q : FnOK prog R83q := fA (rs := .c (.bool)) f251 ⟨[], [], false⟩ (fun d => d.1) (env_n (l := [R82q]) mixed_orders ⟨F82q, trivial⟩) loops0
def I84_0q : Spec := ⟨[(1, .c (.lit (.fn 251 [1001000]))), (5, .c (.lit (.osl 1001001 none))), (8, .c (.dat false y17q)), (9, .c (.int .i64)), (10, .c (.int .i64))], [.robox [.int .i64], .arr true y17q], [(5, none, y17q, false)]⟩
def X0_84_0q : Spec := ⟨[(5, .c (.lit (.osl 1001000 none)))], [.arr true y17q], []⟩
def c84_0q (f : view_all__view_Ready_fn1_L0T) (d : I84_0q.den) : Option view_all__view_Ready_fn1_L0X := f d.1.2.2.1.1 d.1.2.2.2.1.1 d.1.2.2.2.2.1.1 d.2.1.1 d.2.2.1
def L84_0q : LoopSum := ⟨I84_0q, [(.exit 0, X0_84_0q)], view_all__view_Ready_fn1_L0X, fun k d => c84_0q (view_all__view_Ready_fn1_L0 k k) d, fun b x _ K => K (.exit 0) (stOf b X0_84_0q (((), ()), (x, ())))⟩
noncomputable def E84q : Env := ⟨prog, fun _ => false, sumsOf [R83q]⟩
def A84q : Notes := ⟨[], [(3, L84_0q)], false⟩
theorem B84q : EnvB E84q := env_n (l := [R83q]) mixed_orders ⟨F83q, trivial⟩
theorem lk84_0q : LoopOK prog 1000 0 23 (loopAt (bodyOf f153) 0) L84_0q := lp (A := A84q) L84_0q (fun d => d.2.1) c84_0q view_all__view_Ready_fn1_L0 view_all__view_Ready_fn1_L0b B84q loops0
def R84q : Nat × Entry := entA 153 [.c (.dat false y17q), .fn 251 [[.int .i64]]] (.c (.own y17q)) (fun k d => view_all__view_Ready_fn1 k d.1 d.2.1) (fun x => (x, ()))
theorem F84q : FnOK prog R84q := fA (rs := .c (.own y17q)) f153 A84q (fun d => d.1) B84q (loops1 lk84_0q)
def R85q : Nat × Entry := entA 220 [.c (.dat false y17q), .c (.int .i64)] (.c (.own y17q)) (fun k d => view_Ready k d.1 d.2.1) (fun x => (x, ()))
theorem F85q : FnOK prog R85q := fA (rs := .c (.own y17q)) f220 ⟨[], [], false⟩ (fun d => d.1) (env_n (l := [R84q]) mixed_orders ⟨F84q, trivial⟩) loops0
def R86q : Nat × Entry := entA 238 [.agg pc24q, .ptr pc24q] (.c (.bool)) (fun k d => (u0_14 (view_May_fn1_fn1 k) d)) (fun x => (x, ()))
theorem F86q : FnOK prog R86q := fA (rs := .c (.bool)) f238 ⟨[], [], false⟩ (fun d => d.1) (env_n (l := []) mixed_orders trivial) loops0
def I87_0q : Spec := ⟨[(0, .c (.dat false y17q)), (1, .c (.lit (.fn 238 [1001000]))), (7, .c (.int .i64)), (8, .c (.int .i64))], [.robox cs7q], []⟩
def X0_87_0q : Spec := ⟨[], [], []⟩
def X1_87_0q : Spec := ⟨[(4, .c (.int .i64))], [], []⟩
def c87_0q (f : slices_IndexFunc_Pay__view_May_fn1_fn1_L0T) (d : I87_0q.den) : Option (Unit ⊕ Int) := (u0_7 (f d.1.1.1 d.1.2.2.1.1 d.1.2.2.2.1.1) d.2.1)
def L87_0q : LoopSum := ⟨I87_0q, [(.exit 0, X0_87_0q), (.ret, X1_87_0q)], (Unit ⊕ Int), fun k d => c87_0q (slices_IndexFunc_Pay__view_May_fn1_fn1_L0 k k) d, fun b x _ K => match x with | .inl x => K (.exit 0) (stOf b X0_87_0q ((), ())) | .inr x => K .ret (stOf b X1_87_0q (((x, ()), ()), ()))⟩
noncomputable def E87q : Env := ⟨prog, fun _ => false, sumsOf [R86q]⟩
def A87q : Notes := ⟨[], [(2, L87_0q)], false⟩
theorem B87q : EnvB E87q := env_n (l := [R86q]) mixed_orders ⟨F86q, trivial⟩
theorem lk87_0q : LoopOK prog 1000 0 19 (loopAt (bodyOf f98) 0) L87_0q := lp (A := A87q) L87_0q (fun d => match d with | .inl d => .inl () | .inr d => .inr d.1.1.1) c87_0q slices_IndexFunc_Pay__view_May_fn1_fn1_L0 slices_IndexFunc_Pay__view_May_fn1_fn1_L0b B87q loops0
def R87q : Nat × Entry := entA 98 [.c (.dat false y17q), .fn 238 [pc24q]] (.c (.int .i64)) (fun k d => (u0_8 (slices_IndexFunc_Pay__view_May_fn1_fn1 k) d)) (fun x => (x, ()))
theorem F87q : FnOK prog R87q := fA (rs := .c (.int .i64)) f98 A87q (fun d => d.1) B87q (loops1 lk87_0q)
def R88q : Nat × Entry := entA 132 [.c (.dat false y17q), .fn 238 [pc24q]] (.c (.bool)) (fun k d => (u0_8 (slices_ContainsFunc_Pay__view_May_fn1_fn1 k) d)) (fun x => (x, ()))
theorem F88q : FnOK prog R88q := fA (rs := .c (.bool)) f132 ⟨[], [], false⟩ (fun d => d.1) (env_n (l := [R87q]) mixed_orders ⟨F87q, trivial⟩) loops0
def R89q : Nat × Entry := entX 237 [.agg pc24q, .ptr true [.map], .ptr false [.p (.dat false y17q)]] (.c (.bool)) [[.map]] (fun k d => (u0_9 (view_May_fn1 k) d)) (fun x => (x.1, x.2, ()))
theorem F89q : FnOK prog R89q := fX (rs := .c (.bool)) (os := [[.map]]) f237 ⟨[], [], false⟩ 3 (fun d => (d.1, d.2.1)) (env_n (l := [R88q]) mixed_orders ⟨F88q, trivial⟩) loops0
def I90_0q : Spec := ⟨[(1, .c (.lit (.fn 237 [1001000, 1001002]))), (5, .c (.lit (.osl 1001003 none))), (8, .c (.dat false y17q)), (9, .c (.int .i64)), (10, .c (.int .i64))], [.box true [.lit (.map 1001001)], .imap, .robox [.dat false y17q], .arr true y17q], [(5, none, y17q, false)]⟩
def X0_90_0q : Spec := ⟨[(1, .c (.lit (.fn 237 [1001000, 1001002]))), (5, .c (.lit (.osl 1001003 none)))], [.box true [.lit (.map 1001001)], .imap, .robox [.dat false y17q], .arr true y17q], []⟩
def c90_0q (f : view_all__view_May_fn1_L0T) (d : I90_0q.den) : Option view_all__view_May_fn1_L0X := f d.1.2.2.1.1 d.1.2.2.2.1.1 d.1.2.2.2.2.1.1 d.2.2.1 d.2.2.2.1.1 d.2.2.2.2.1
def L90_0q : LoopSum := ⟨I90_0q, [(.exit 0, X0_90_0q)], view_all__view_May_fn1_L0X, fun k d => c90_0q (view_all__view_May_fn1_L0 k k) d, fun b x _ K => K (.exit 0) (stOf b X0_90_0q (((), (), ()), ((), x.1, (x.2.1, ()), x.2.2, ())))⟩
noncomputable def E90q : Env := ⟨prog, fun _ => false, sumsOf [R89q]⟩
def A90q : Notes := ⟨[], [(3, L90_0q)], false⟩
theorem B90q : EnvB E90q := env_n (l := [R89q]) mixed_orders ⟨F89q, trivial⟩
theorem lk90_0q : LoopOK prog 1000 2 23 (loopAt (bodyOf f153) 0) L90_0q := lp (A := A90q) L90_0q (fun d => (d.2.2.1, d.2.2.2.1.1, d.2.2.2.2.1)) c90_0q view_all__view_May_fn1_L0 view_all__view_May_fn1_L0b B90q loops0
def R90q : Nat × Entry := entX 153 [.c (.p (.dat false y17q)), .fn 237 [(true, [.map]), (false, [.p (.dat false y17q)])]] (.c (.own y17q)) [[.map]] (fun k d => view_all__view_May_fn1 k d.1 d.2.1 d.2.2.1) (fun x => (x.1, x.2, ()))
theorem F90q : FnOK prog R90q := fX (rs := .c (.own y17q)) (os := [[.map]]) f153 A90q 2 (fun d => (d.1, d.2.1)) B90q (loops1 lk90_0q)
def R91q : Nat × Entry := entA 198 [.c (.dat false y17q), .c (.int .i64)] (.c (.own y17q)) (fun k d => view_May k d.1 d.2.1) (fun x => (x, ()))
theorem F91q : FnOK prog R91q := fA (rs := .c (.own y17q)) f198 ⟨[], [], false⟩ (fun d => d.1) (env_n (l := [R85q, R90q]) mixed_orders ⟨F85q, F90q, trivial⟩) loops0
def R92q : Nat × Entry := entA 128 [.agg pc17q, .agg pc24q] (.c (.bool)) (fun k d => (u0_11 (fits_May k) d)) (fun x => (x, ()))
theorem F92q : FnOK prog R92q := fA (rs := .c (.bool)) f128 ⟨[], [], false⟩ (fun d => d.1) (env_n (l := []) mixed_orders trivial) loops0
def R93q : Nat × Entry := entA 239 [.agg pc24q, .ptr pc17q] (.c (.bool)) (fun k d => (u0_11 (fits_Fits_fn1 k) d)) (fun x => (x, ()))
theorem F93q : FnOK prog R93q := fA (rs := .c (.bool)) f239 ⟨[], [], false⟩ (fun d => d.1) (env_n (l := [R92q]) mixed_orders ⟨F92q, trivial⟩) loops0
def I94_0q : Spec := ⟨[(0, .c (.dat false y17q)), (1, .c (.lit (.fn 239 [1001000]))), (7, .c (.int .i64)), (8, .c (.int .i64))], [.robox cs1q], []⟩
def X0_94_0q : Spec := ⟨[], [], []⟩
def X1_94_0q : Spec := ⟨[(4, .c (.int .i64))], [], []⟩
def c94_0q (f : slices_IndexFunc_Pay__fits_Fits_fn1_L0T) (d : I94_0q.den) : Option (Unit ⊕ Int) := (u0_4 (f d.1.1.1 d.1.2.2.1.1 d.1.2.2.2.1.1) d.2.1)
def L94_0q : LoopSum := ⟨I94_0q, [(.exit 0, X0_94_0q), (.ret, X1_94_0q)], (Unit ⊕ Int), fun k d => c94_0q (slices_IndexFunc_Pay__fits_Fits_fn1_L0 k k) d, fun b x _ K => match x with | .inl x => K (.exit 0) (stOf b X0_94_0q ((), ())) | .inr x => K .ret (stOf b X1_94_0q (((x, ()), ()), ()))⟩
noncomputable def E94q : Env := ⟨prog, fun _ => false, sumsOf [R93q]⟩
def A94q : Notes := ⟨[], [(2, L94_0q)], false⟩
theorem B94q : EnvB E94q := env_n (l := [R93q]) mixed_orders ⟨F93q, trivial⟩
theorem lk94_0q : LoopOK prog 1000 0 19 (loopAt (bodyOf f98) 0) L94_0q := lp (A := A94q) L94_0q (fun d => match d with | .inl d => .inl () | .inr d => .inr d.1.1.1) c94_0q slices_IndexFunc_Pay__fits_Fits_fn1_L0 slices_IndexFunc_Pay__fits_Fits_fn1_L0b B94q loops0
def R94q : Nat × Entry := entA 98 [.c (.dat false y17q), .fn 239 [pc17q]] (.c (.int .i64)) (fun k d => (u0_5 (slices_IndexFunc_Pay__fits_Fits_fn1 k) d)) (fun x => (x, ()))
theorem F94q : FnOK prog R94q := fA (rs := .c (.int .i64)) f98 A94q (fun d => d.1) B94q (loops1 lk94_0q)
def R95q : Nat × Entry := entA 132 [.c (.dat false y17q), .fn 239 [pc17q]] (.c (.bool)) (fun k d => (u0_5 (slices_ContainsFunc_Pay__fits_Fits_fn1 k) d)) (fun x => (x, ()))
theorem F95q : FnOK prog R95q := fA (rs := .c (.bool)) f132 ⟨[], [], false⟩ (fun d => d.1) (env_n (l := [R94q]) mixed_orders ⟨F94q, trivial⟩) loops0
def I96_0q : Spec := ⟨[(4, .c (.lit (.ptr 1001000 0))), (5, .c (.lit (.ptr 1001001 0))), (15, .c (.dat false y17q)), (16, .c (.int .i64)), (17, .c (.int .i64))], [.box true [.lit .nsl, .lit .nsl, .lit .nsl], .box true cs12q, .arr true (.int .i64), .arr true (.int .i64), .mat], []⟩
def X0_96_0q : Spec := ⟨[(4, .c (.lit (.ptr 1001000 0))), (5, .c (.lit (.ptr 1001001 0)))], [.box true [.lit .nsl, .lit .nsl, .lit .nsl], .box true cs12q, .arr true (.int .i64), .arr true (.int .i64), .mat], []⟩
def c96_0q (f : fits_moved_L0T) (d : I96_0q.den) : Option fits_moved_L0X := f d.1.2.2.1.1 d.1.2.2.2.1.1 d.1.2.2.2.2.1.1 d.2.2.2.1 d.2.2.2.2.1 d.2.2.2.2.2.1
def L96_0q : LoopSum := ⟨I96_0q, [(.exit 0, X0_96_0q)], fits_moved_L0X, fun k d => c96_0q (fits_moved_L0 k k) d, fun b x _ K => K (.exit 0) (stOf b X0_96_0q (((), (), ()), ((), (), x.1, x.2.1, x.2.2, ())))⟩
noncomputable def E96q : Env := ⟨prog, fun _ => false, sumsOf [R2q, R3q]⟩
def A96q : Notes := ⟨[], [(3, L96_0q)], false⟩
theorem B96q : EnvB E96q := env_n (l := [R2q, R3q]) mixed_orders ⟨F2q, F3q, trivial⟩
theorem lk96_0q : LoopOK prog 1000 0 84 (loopAt (bodyOf f259) 0) L96_0q := lp (A := A96q) L96_0q (fun d => (d.2.2.2.1, d.2.2.2.2.1, d.2.2.2.2.2.1)) c96_0q fits_moved_L0 fits_moved_L0b B96q loops0
def R96q : Nat × Entry := entA 259 [.c (.int .i64), .c (.dat false y17q)] (.agg [.own (.int .i64), .own (.int .i64), .mat]) (fun k d => fits_moved k d.1 d.2.1) (fun x => (x.1, x.2.1, x.2.2, ()))
theorem F96q : FnOK prog R96q := fA (rs := .agg [.own (.int .i64), .own (.int .i64), .mat]) f259 A96q (fun d => (d.1, d.2.1, d.2.2.1)) B96q (loops1 lk96_0q)
def R97q : Nat × Entry := entA 260 [.agg pc24q, .ptr [.int .i64]] (.c (.bool)) (fun k d => (u0_8 (fits_Short_fn1 k) d)) (fun x => (x, ()))
theorem F97q : FnOK prog R97q := fA (rs := .c (.bool)) f260 ⟨[], [], false⟩ (fun d => d.1) (env_n (l := []) mixed_orders trivial) loops0
def I98_0q : Spec := ⟨[(0, .c (.dat false y17q)), (1, .c (.lit (.fn 260 [1001000]))), (7, .c (.int .i64)), (8, .c (.int .i64))], [.robox [.int .i64]], []⟩
def X0_98_0q : Spec := ⟨[], [], []⟩
def X1_98_0q : Spec := ⟨[(4, .c (.int .i64))], [], []⟩
def c98_0q (f : slices_IndexFunc_Pay__fits_Short_fn1_L0T) (d : I98_0q.den) : Option (Unit ⊕ Int) := f d.1.1.1 d.1.2.2.1.1 d.1.2.2.2.1.1 d.2.1.1
def L98_0q : LoopSum := ⟨I98_0q, [(.exit 0, X0_98_0q), (.ret, X1_98_0q)], (Unit ⊕ Int), fun k d => c98_0q (slices_IndexFunc_Pay__fits_Short_fn1_L0 k k) d, fun b x _ K => match x with | .inl x => K (.exit 0) (stOf b X0_98_0q ((), ())) | .inr x => K .ret (stOf b X1_98_0q (((x, ()), ()), ()))⟩
noncomputable def E98q : Env := ⟨prog, fun _ => false, sumsOf [R97q]⟩
def A98q : Notes := ⟨[], [(2, L98_0q)], false⟩
theorem B98q : EnvB E98q := env_n (l := [R97q]) mixed_orders ⟨F97q, trivial⟩
theorem lk98_0q : LoopOK prog 1000 0 19 (loopAt (bodyOf f98) 0) L98_0q := lp (A := A98q) L98_0q (fun d => match d with | .inl d => .inl () | .inr d => .inr d.1.1.1) c98_0q slices_IndexFunc_Pay__fits_Short_fn1_L0 slices_IndexFunc_Pay__fits_Short_fn1_L0b B98q loops0
def R98q : Nat × Entry := entA 98 [.c (.dat false y17q), .fn 260 [[.int .i64]]] (.c (.int .i64)) (fun k d => slices_IndexFunc_Pay__fits_Short_fn1 k d.1 d.2.1) (fun x => (x, ()))
theorem F98q : FnOK prog R98q := fA (rs := .c (.int .i64)) f98 A98q (fun d => d.1) B98q (loops1 lk98_0q)
def R99q : Nat × Entry := entA 132 [.c (.dat false y17q), .fn 260 [[.int .i64]]] (.c (.bool)) (fun k d => slices_ContainsFunc_Pay__fits_Short_fn1 k d.1 d.2.1) (fun x => (x, ()))
theorem F99q : FnOK prog R99q := fA (rs := .c (.bool)) f132 ⟨[], [], false⟩ (fun d => d.1) (env_n (l := [R98q]) mixed_orders ⟨F98q, trivial⟩) loops0
def I100_0q : Spec := ⟨[(5, .c (.int .i64)), (12, .c (.dat false (.int .i64))), (13, .c (.int .i64)), (14, .c (.int .i64))], [], []⟩
def X0_100_0q : Spec := ⟨[(5, .c (.int .i64))], [], []⟩
def c100_0q (f : Int → List Int → Int → Int → Option Int) (d : I100_0q.den) : Option Int := f d.1.1.1 d.1.2.1.1 d.1.2.2.1.1 d.1.2.2.2.1.1
def L100_0q : LoopSum := ⟨I100_0q, [(.exit 0, X0_100_0q)], Int, fun k d => c100_0q (lim_Net_L0 k k) d, fun b x _ K => K (.exit 0) (stOf b X0_100_0q (((x, ()), ()), ()))⟩
noncomputable def E100q : Env := ⟨prog, fun _ => false, sumsOf []⟩
def A100q : Notes := ⟨[], [(3, L100_0q)], false⟩
theorem B100q : EnvB E100q := env_n (l := []) mixed_orders trivial
theorem lk100_0q : LoopOK prog 1000 0 23 (loopAt (bodyOf f265) 0) L100_0q := lp (A := A100q) L100_0q (fun d => d.1.1.1) c100_0q lim_Net_L0 lim_Net_L0b B100q loops0
def R100q : Nat × Entry := entA 265 [.agg pc17q, .c (.int .i64)] (.c (.int .i64)) (fun k d => (u0_5 (lim_Net k) d)) (fun x => (x, ()))
theorem F100q : FnOK prog R100q := fA (rs := .c (.int .i64)) f265 A100q (fun d => d.1) B100q (loops1 lk100_0q)
def R101q : Nat × Entry := entA 266 [.c (.int .i64), .c (.int .i64)] (.c (.bool)) (fun k d => fits_over k d.1 d.2.1) (fun x => (x, ()))
theorem F101q : FnOK prog R101q := fA (rs := .c (.bool)) f266 ⟨[], [], false⟩ (fun d => d.1) (env_n (l := []) mixed_orders trivial) loops0
def R102q : Nat × Entry := entA 267 [.agg pc24q, .ptr [.int .i64], .ptr pc23q, .ptr pc16q, .ptr [.int .i64], .ptr pc17q] (.c (.bool)) (fun k d => (u0_19 (fits_move_isShort_fn1 k) d)) (fun x => (x, ()))
theorem F102q : FnOK prog R102q := fA (rs := .c (.bool)) f267 ⟨[], [], false⟩ (fun d => d.1) (env_n (l := [R71q, R101q]) mixed_orders ⟨F71q, F101q, trivial⟩) loops0
def I103_0q : Spec := ⟨[(0, .c (.dat false y17q)), (1, .c (.lit (.fn 267 [1001000, 1001001, 1001002, 1001003, 1001004]))), (7, .c (.int .i64)), (8, .c (.int .i64))], [.robox [.int .i64], .robox [.int .i64, .int .i64, .int .i64], .robox cs0q, .robox [.int .i64], .robox cs1q], []⟩
def X0_103_0q : Spec := ⟨[], [], []⟩
def X1_103_0q : Spec := ⟨[(4, .c (.int .i64))], [], []⟩
def c103_0q (f : slices_IndexFunc_Pay__fits_move_isShort_fn1_L0T) (d : I103_0q.den) : Option (Unit ⊕ Int) := (u0_4 (f d.1.1.1 d.1.2.2.1.1 d.1.2.2.2.1.1 d.2.1.1 d.2.2.1.1 d.2.2.1.2.1 d.2.2.1.2.2.1 d.2.2.2.1.1 d.2.2.2.1.2.1 d.2.2.2.1.2.2.1 d.2.2.2.2.1.1) d.2.2.2.2.2.1)
def L103_0q : LoopSum := ⟨I103_0q, [(.exit 0, X0_103_0q), (.ret, X1_103_0q)], (Unit ⊕ Int), fun k d => c103_0q (slices_IndexFunc_Pay__fits_move_isShort_fn1_L0 k k) d, fun b x _ K => match x with | .inl x => K (.exit 0) (stOf b X0_103_0q ((), ())) | .inr x => K .ret (stOf b X1_103_0q (((x, ()), ()), ()))⟩
noncomputable def E103q : Env := ⟨prog, fun _ => false, sumsOf [R102q]⟩
def A103q : Notes := ⟨[], [(2, L103_0q)], false⟩
theorem B103q : EnvB E103q := env_n (l := [R102q]) mixed_orders ⟨F102q, trivial⟩
theorem lk103_0q : LoopOK prog 1000 0 19 (loopAt (bodyOf f98) 0) L103_0q := lp (A := A103q) L103_0q (fun d => match d with | .inl d => .inl () | .inr d => .inr d.1.1.1) c103_0q slices_IndexFunc_Pay__fits_move_isShort_fn1_L0 slices_IndexFunc_Pay__fits_move_isShort_fn1_L0b B103q loops0
def R103q : Nat × Entry := entA 98 [.c (.dat false y17q), .fn 267 [[.int .i64], pc23q, pc16q, [.int .i64], pc17q]] (.c (.int .i64)) (fun k d => (u0_13 (slices_IndexFunc_Pay__fits_move_isShort_fn1 k) d)) (fun x => (x, ()))
theorem F103q : FnOK prog R103q := fA (rs := .c (.int .i64)) f98 A103q (fun d => d.1) B103q (loops1 lk103_0q)
def R104q : Nat × Entry := entA 132 [.c (.dat false y17q), .fn 267 [[.int .i64], pc23q, pc16q, [.int .i64], pc17q]] (.c (.bool)) (fun k d => (u0_13 (slices_ContainsFunc_Pay__fits_move_isShort_fn1 k) d)) (fun x => (x, ()))
theorem F104q : FnOK prog R104q := fA (rs := .c (.bool)) f132 ⟨[], [], false⟩ (fun d => d.1) (env_n (l := [R103q]) mixed_orders ⟨F103q, trivial⟩) loops0
def I105_0q : Spec := ⟨[(3, .c (.dat false y17q)), (4, .c (.lit (.ptr 1001000 0))), (5, .c (.lit (.ptr 1001001 0))), (6, .c (.lit (.ptr 1001002 0))), (9, .c (.lit (.ptr 1001003 0))), (10, .c (.lit (.ptr 1001004 0))), (11, .c (.int .i64)), (39, .c (.dat false (.int .i64))), (40, .c (.int .i64)), (41, .c (.int .i64))], [.box true cs0q, .box true cs1q, .box true [.int .i64], .box true [.int .i64, .int .i64, .int .i64], .box true [.int .i64]], []⟩
def X0_105_0q : Spec := ⟨[(3, .c (.dat false y17q)), (4, .c (.lit (.ptr 1001000 0))), (5, .c (.lit (.ptr 1001001 0))), (6, .c (.lit (.ptr 1001002 0))), (9, .c (.lit (.ptr 1001003 0))), (10, .c (.lit (.ptr 1001004 0))), (11, .c (.int .i64))], [.box true cs0q, .box true cs1q, .box true [.int .i64], .box true [.int .i64, .int .i64, .int .i64], .box true [.int .i64]], []⟩
def c105_0q (f : fits_move_isShort_L0T) (d : I105_0q.den) : Option fits_move_isShort_L0X := (u0_4 (f d.1.1.1 d.1.2.2.2.2.2.2.1.1 d.1.2.2.2.2.2.2.2.1.1 d.1.2.2.2.2.2.2.2.2.1.1 d.1.2.2.2.2.2.2.2.2.2.1.1 d.2.1.1 d.2.1.2.1 d.2.1.2.2.1) d.2.2.1) d.2.2.2.1.1 d.2.2.2.2.1.1 d.2.2.2.2.1.2.1 d.2.2.2.2.1.2.2.1 d.2.2.2.2.2.1.1
def L105_0q : LoopSum := ⟨I105_0q, [(.exit 0, X0_105_0q)], fits_move_isShort_L0X, fun k d => c105_0q (fits_move_isShort_L0 k k) d, fun b x _ K => K (.exit 0) (stOf b X0_105_0q (((x.1, ()), (), (), (), (), (), (x.2.1, ()), ()), ((x.2.2.1, x.2.2.2.1, x.2.2.2.2.1, ()), (j5_4 x ()), (x.2.2.2.2.2.2.2.2.2.1, ()), (x.2.2.2.2.2.2.2.2.2.2.1, x.2.2.2.2.2.2.2.2.2.2.2.1, x.2.2.2.2.2.2.2.2.2.2.2.2.1, ()), (x.2.2.2.2.2.2.2.2.2.2.2.2.2, ()), ())))⟩
noncomputable def E105q : Env := ⟨prog, fun _ => false, sumsOf [R100q, R101q, R104q]⟩
def A105q : Notes := ⟨[], [(7, L105_0q)], false⟩
theorem B105q : EnvB E105q := env_n (l := [R100q, R101q, R104q]) mixed_orders ⟨F100q, F101q, F104q, trivial⟩
theorem lk105_0q : LoopOK prog 1000 0 59 (loopAt (bodyOf f261) 0) L105_0q := lp (A := A105q) L105_0q (fun d => (d.1.1.1, d.1.2.2.2.2.2.2.1.1, d.2.1.1, d.2.1.2.1, d.2.1.2.2.1, (j0_4 d.2.2.1 (d.2.2.2.1.1, d.2.2.2.2.1.1, d.2.2.2.2.1.2.1, d.2.2.2.2.1.2.2.1, d.2.2.2.2.2.1.1)))) c105_0q fits_move_isShort_L0 fits_move_isShort_L0b B105q loops0
def R105q : Nat × Entry := entA 261 [.agg pc16q, .agg pc17q, .c (.int .i64), .c (.dat false y17q)] (.c (.bool)) (fun k d => (u0_9 (fits_move_isShort k) d)) (fun x => (x, ()))
theorem F105q : FnOK prog R105q := fA (rs := .c (.bool)) f261 A105q (fun d => d.1) B105q (loops1 lk105_0q)
def I106_0q : Spec := ⟨[(1, .c (.dat false y17q)), (2, .c (.lit (.ptr 1001000 0))), (5, .c (.lit (.ptr 1001001 0))), (6, .c (.lit (.osl 1001005 none))), (16, .c (.int .i64)), (17, .c (.int .i64))], [.box true cs1q, .box true cs12q, .arr true (.int .i64), .arr true (.int .i64), .mat, .arr true (.int .i64)], [(6, none, (.int .i64), false)]⟩
def X0_106_0q : Spec := ⟨[(6, .c (.lit (.osl 1001000 none)))], [.arr true (.int .i64)], []⟩
def c106_0q (f : fits_Short_L0T) (d : I106_0q.den) : Option (List Int) := (u0_4 (f d.1.1.1 d.1.2.2.2.2.1.1 d.1.2.2.2.2.2.1.1) d.2.1) d.2.2.2.1 d.2.2.2.2.1 d.2.2.2.2.2.1 d.2.2.2.2.2.2.1
def L106_0q : LoopSum := ⟨I106_0q, [(.exit 0, X0_106_0q)], (List Int), fun k d => c106_0q (fits_Short_L0 k k) d, fun b x _ K => K (.exit 0) (stOf b X0_106_0q (((), ()), (x, ())))⟩
noncomputable def E106q : Env := ⟨prog, fun _ => false, sumsOf [R96q, R99q, R105q]⟩
def A106q : Notes := ⟨[], [(4, L106_0q)], false⟩
theorem B106q : EnvB E106q := env_n (l := [R96q, R99q, R105q]) mixed_orders ⟨F96q, F99q, F105q, trivial⟩
theorem lk106_0q : LoopOK prog 1000 0 37 (loopAt (bodyOf f240) 0) L106_0q := lp (A := A106q) L106_0q (fun d => d.2.1) c106_0q fits_Short_L0 fits_Short_L0b B106q loops0
def R106q : Nat × Entry := entA 240 [.agg pc17q, .c (.dat false y17q)] (.c (.own (.int .i64))) (fun k d => (u0_5 (fits_Short k) d)) (fun x => (x, ()))
theorem F106q : FnOK prog R106q := fA (rs := .c (.own (.int .i64))) f240 A106q (fun d => d.1) B106q (loops1 lk106_0q)
def R107q : Nat × Entry := entA 199 [.agg pc17q, .c (.dat false y17q)] (.c (.bool)) (fun k d => (u0_5 (fits_Fits k) d)) (fun x => (x, ()))
theorem F107q : FnOK prog R107q := fA (rs := .c (.bool)) f199 ⟨[], [], false⟩ (fun d => d.1) (env_n (l := [R95q, R106q]) mixed_orders ⟨F95q, F106q, trivial⟩) loops0
def R108q : Nat × Entry := entA 241 [.agg pc24q, .ptr pc17q] (.c (.bool)) (fun k d => (u0_11 (post_Post_fn1 k) d)) (fun x => (x, ()))
theorem F108q : FnOK prog R108q := fA (rs := .c (.bool)) f241 ⟨[], [], false⟩ (fun d => d.1) (env_n (l := [R92q]) mixed_orders ⟨F92q, trivial⟩) loops0
def I109_0q : Spec := ⟨[(0, .c (.dat false y17q)), (1, .c (.lit (.fn 241 [1001000]))), (7, .c (.int .i64)), (8, .c (.int .i64))], [.robox cs1q], []⟩
def X0_109_0q : Spec := ⟨[], [], []⟩
def X1_109_0q : Spec := ⟨[(4, .c (.int .i64))], [], []⟩
def c109_0q (f : slices_IndexFunc_Pay__post_Post_fn1_L0T) (d : I109_0q.den) : Option (Unit ⊕ Int) := (u0_4 (f d.1.1.1 d.1.2.2.1.1 d.1.2.2.2.1.1) d.2.1)
def L109_0q : LoopSum := ⟨I109_0q, [(.exit 0, X0_109_0q), (.ret, X1_109_0q)], (Unit ⊕ Int), fun k d => c109_0q (slices_IndexFunc_Pay__post_Post_fn1_L0 k k) d, fun b x _ K => match x with | .inl x => K (.exit 0) (stOf b X0_109_0q ((), ())) | .inr x => K .ret (stOf b X1_109_0q (((x, ()), ()), ()))⟩
noncomputable def E109q : Env := ⟨prog, fun _ => false, sumsOf [R108q]⟩
def A109q : Notes := ⟨[], [(2, L109_0q)], false⟩
theorem B109q : EnvB E109q := env_n (l := [R108q]) mixed_orders ⟨F108q, trivial⟩
theorem lk109_0q : LoopOK prog 1000 0 19 (loopAt (bodyOf f98) 0) L109_0q := lp (A := A109q) L109_0q (fun d => match d with | .inl d => .inl () | .inr d => .inr d.1.1.1) c109_0q slices_IndexFunc_Pay__post_Post_fn1_L0 slices_IndexFunc_Pay__post_Post_fn1_L0b B109q loops0
def R109q : Nat × Entry := entA 98 [.c (.dat false y17q), .fn 241 [pc17q]] (.c (.int .i64)) (fun k d => (u0_5 (slices_IndexFunc_Pay__post_Post_fn1 k) d)) (fun x => (x, ()))
theorem F109q : FnOK prog R109q := fA (rs := .c (.int .i64)) f98 A109q (fun d => d.1) B109q (loops1 lk109_0q)
def R110q : Nat × Entry := entA 132 [.c (.dat false y17q), .fn 241 [pc17q]] (.c (.bool)) (fun k d => (u0_5 (slices_ContainsFunc_Pay__post_Post_fn1 k) d)) (fun x => (x, ()))
theorem F110q : FnOK prog R110q := fA (rs := .c (.bool)) f132 ⟨[], [], false⟩ (fun d => d.1) (env_n (l := [R109q]) mixed_orders ⟨F109q, trivial⟩) loops0
def R111q : Nat × Entry := entA 115 [.agg pc23q] (.c (.bool)) (fun k d => lim_Is_fn1 k d.1 d.2.1 d.2.2.1) (fun x => (x, ()))
theorem F111q : FnOK prog R111q := fA (rs := .c (.bool)) f115 ⟨[], [], false⟩ (fun d => d.1) (env_n (l := [R68q]) mixed_orders ⟨F68q, trivial⟩) loops0
def I112_0q : Spec := ⟨[(0, .c (.dat false y7q)), (1, .c (.lit (.fn 115 []))), (7, .c (.int .i64)), (8, .c (.int .i64))], [], []⟩
def X0_112_0q : Spec := ⟨[], [], []⟩
def X1_112_0q : Spec := ⟨[(4, .c (.int .i64))], [], []⟩
def c112_0q (f : slices_IndexFunc_Acct__lim_Is_fn1_L0T) (d : I112_0q.den) : Option (Unit ⊕ Int) := f d.1.1.1 d.1.2.2.1.1 d.1.2.2.2.1.1
def L112_0q : LoopSum := ⟨I112_0q, [(.exit 0, X0_112_0q), (.ret, X1_112_0q)], (Unit ⊕ Int), fun k d => c112_0q (slices_IndexFunc_Acct__lim_Is_fn1_L0 k k) d, fun b x _ K => match x with | .inl x => K (.exit 0) (stOf b X0_112_0q ((), ())) | .inr x => K .ret (stOf b X1_112_0q (((x, ()), ()), ()))⟩
noncomputable def E112q : Env := ⟨prog, fun _ => false, sumsOf [R111q]⟩
def A112q : Notes := ⟨[], [(2, L112_0q)], false⟩
theorem B112q : EnvB E112q := env_n (l := [R111q]) mixed_orders ⟨F111q, trivial⟩
theorem lk112_0q : LoopOK prog 1000 0 19 (loopAt (bodyOf f188) 0) L112_0q := lp (A := A112q) L112_0q (fun d => match d with | .inl d => .inl () | .inr d => .inr d.1.1.1) c112_0q slices_IndexFunc_Acct__lim_Is_fn1_L0 slices_IndexFunc_Acct__lim_Is_fn1_L0b B112q loops0
def R112q : Nat × Entry := entA 188 [.c (.dat false y7q), .c (.fn 115)] (.c (.int .i64)) (fun k d => slices_IndexFunc_Acct__lim_Is_fn1 k d.1) (fun x => (x, ()))
theorem F112q : FnOK prog R112q := fA (rs := .c (.int .i64)) f188 A112q (fun d => d.1) B112q (loops1 lk112_0q)
def R113q : Nat × Entry := entA 117 [.c (.dat false y7q), .c (.fn 115)] (.c (.bool)) (fun k d => slices_ContainsFunc_Acct__lim_Is_fn1 k d.1) (fun x => (x, ()))
theorem F113q : FnOK prog R113q := fA (rs := .c (.bool)) f117 ⟨[], [], false⟩ (fun d => d.1) (env_n (l := [R112q]) mixed_orders ⟨F112q, trivial⟩) loops0
def R114q : Nat × Entry := entA 119 [.c (.int .i64)] (.c (.bool)) (fun k d => lim_isLimit k d.1) (fun x => (x, ()))
theorem F114q : FnOK prog R114q := fA (rs := .c (.bool)) f119 ⟨[], [], false⟩ (fun d => d.1) (env_n (l := []) mixed_orders trivial) loops0
def R115q : Nat × Entry := entA 189 [.c (.int .i64), .ptr [.fn 119]] (.c (.bool)) (fun k d => lim_isRow_fn1__lim_isLimit k d.1) (fun x => (x, ()))
theorem F115q : FnOK prog R115q := fA (rs := .c (.bool)) f189 ⟨[], [], false⟩ (fun d => d.1) (env_n (l := [R114q]) mixed_orders ⟨F114q, trivial⟩) loops0
def I116_0q : Spec := ⟨[(0, .c (.dat false (.int .i64))), (1, .c (.lit (.fn 189 [1001000]))), (7, .c (.int .i64)), (8, .c (.int .i64))], [.robox [.lit (.fn 119 [])]], []⟩
def X0_116_0q : Spec := ⟨[], [], []⟩
def X1_116_0q : Spec := ⟨[(4, .c (.int .i64))], [], []⟩
def c116_0q (f : slices_IndexFunc_int64__lim_isRow_fn1__lim_isLimit_L0T) (d : I116_0q.den) : Option (Unit ⊕ Int) := f d.1.1.1 d.1.2.2.1.1 d.1.2.2.2.1.1
def L116_0q : LoopSum := ⟨I116_0q, [(.exit 0, X0_116_0q), (.ret, X1_116_0q)], (Unit ⊕ Int), fun k d => c116_0q (slices_IndexFunc_int64__lim_isRow_fn1__lim_isLimit_L0 k k) d, fun b x _ K => match x with | .inl x => K (.exit 0) (stOf b X0_116_0q ((), ())) | .inr x => K .ret (stOf b X1_116_0q (((x, ()), ()), ()))⟩
noncomputable def E116q : Env := ⟨prog, fun _ => false, sumsOf [R115q]⟩
def A116q : Notes := ⟨[], [(2, L116_0q)], false⟩
theorem B116q : EnvB E116q := env_n (l := [R115q]) mixed_orders ⟨F115q, trivial⟩
theorem lk116_0q : LoopOK prog 1000 0 19 (loopAt (bodyOf f190) 0) L116_0q := lp (A := A116q) L116_0q (fun d => match d with | .inl d => .inl () | .inr d => .inr d.1.1.1) c116_0q slices_IndexFunc_int64__lim_isRow_fn1__lim_isLimit_L0 slices_IndexFunc_int64__lim_isRow_fn1__lim_isLimit_L0b B116q loops0
def R116q : Nat × Entry := entA 190 [.c (.dat false (.int .i64)), .fn 189 [[.fn 119]]] (.c (.int .i64)) (fun k d => slices_IndexFunc_int64__lim_isRow_fn1__lim_isLimit k d.1) (fun x => (x, ()))
theorem F116q : FnOK prog R116q := fA (rs := .c (.int .i64)) f190 A116q (fun d => d.1) B116q (loops1 lk116_0q)
def R117q : Nat × Entry := entA 123 [.c (.dat false (.int .i64)), .fn 189 [[.fn 119]]] (.c (.bool)) (fun k d => slices_ContainsFunc_int64__lim_isRow_fn1__lim_isLimit k d.1) (fun x => (x, ()))
theorem F117q : FnOK prog R117q := fA (rs := .c (.bool)) f123 ⟨[], [], false⟩ (fun d => d.1) (env_n (l := [R116q]) mixed_orders ⟨F116q, trivial⟩) loops0
def R118q : Nat × Entry := entA 120 [.c (.dat false (.int .i64)), .c (.int .i64), .c (.fn 119)] (.c (.bool)) (fun k d => lim_isRow__lim_isLimit k d.1 d.2.1) (fun x => (x, ()))
theorem F118q : FnOK prog R118q := fA (rs := .c (.bool)) f120 ⟨[], [], false⟩ (fun d => d.1) (env_n (l := [R117q]) mixed_orders ⟨F117q, trivial⟩) loops0
def I119_0q : Spec := ⟨[(1, .c (.int .i64)), (2, .c (.lit (.fn 119 []))), (13, .c (.dat false (.sl (.int .i64)))), (14, .c (.int .i64)), (15, .c (.int .i64))], [], []⟩
def X0_119_0q : Spec := ⟨[], [], []⟩
def X1_119_0q : Spec := ⟨[(6, .c (.bool))], [], []⟩
def c119_0q (f : lim_isSquare__lim_isLimit_L0T) (d : I119_0q.den) : Option (Unit ⊕ Bool) := f d.1.1.1 d.1.2.2.1.1 d.1.2.2.2.1.1 d.1.2.2.2.2.1.1
def L119_0q : LoopSum := ⟨I119_0q, [(.exit 0, X0_119_0q), (.ret, X1_119_0q)], (Unit ⊕ Bool), fun k d => c119_0q (lim_isSquare__lim_isLimit_L0 k k) d, fun b x _ K => match x with | .inl x => K (.exit 0) (stOf b X0_119_0q ((), ())) | .inr x => K .ret (stOf b X1_119_0q (((x, ()), ()), ()))⟩
noncomputable def E119q : Env := ⟨prog, fun _ => false, sumsOf [R118q]⟩
def A119q : Notes := ⟨[], [(4, L119_0q)], false⟩
theorem B119q : EnvB E119q := env_n (l := [R118q]) mixed_orders ⟨F118q, trivial⟩
theorem lk119_0q : LoopOK prog 1000 0 25 (loopAt (bodyOf f118) 0) L119_0q := lp (A := A119q) L119_0q (fun d => match d with | .inl d => .inl () | .inr d => .inr d.1.1.1) c119_0q lim_isSquare__lim_isLimit_L0 lim_isSquare__lim_isLimit_L0b B119q loops0
def R119q : Nat × Entry := entA 118 [.c (.dat false (.sl (.int .i64))), .c (.int .i64), .c (.fn 119)] (.c (.bool)) (fun k d => lim_isSquare__lim_isLimit k d.1 d.2.1) (fun x => (x, ()))
theorem F119q : FnOK prog R119q := fA (rs := .c (.bool)) f118 A119q (fun d => d.1) B119q (loops1 lk119_0q)
def R120q : Nat × Entry := entA 121 [.c (.int .i64)] (.c (.bool)) (fun k d => lim_isNet k d.1) (fun x => (x, ()))
theorem F120q : FnOK prog R120q := fA (rs := .c (.bool)) f121 ⟨[], [], false⟩ (fun d => d.1) (env_n (l := []) mixed_orders trivial) loops0
def R121q : Nat × Entry := entA 189 [.c (.int .i64), .ptr [.fn 121]] (.c (.bool)) (fun k d => lim_isRow_fn1__lim_isNet k d.1) (fun x => (x, ()))
theorem F121q : FnOK prog R121q := fA (rs := .c (.bool)) f189 ⟨[], [], false⟩ (fun d => d.1) (env_n (l := [R120q]) mixed_orders ⟨F120q, trivial⟩) loops0
def I122_0q : Spec := ⟨[(0, .c (.dat false (.int .i64))), (1, .c (.lit (.fn 189 [1001000]))), (7, .c (.int .i64)), (8, .c (.int .i64))], [.robox [.lit (.fn 121 [])]], []⟩
def X0_122_0q : Spec := ⟨[], [], []⟩
def X1_122_0q : Spec := ⟨[(4, .c (.int .i64))], [], []⟩
def c122_0q (f : slices_IndexFunc_int64__lim_isRow_fn1__lim_isNet_L0T) (d : I122_0q.den) : Option (Unit ⊕ Int) := f d.1.1.1 d.1.2.2.1.1 d.1.2.2.2.1.1
def L122_0q : LoopSum := ⟨I122_0q, [(.exit 0, X0_122_0q), (.ret, X1_122_0q)], (Unit ⊕ Int), fun k d => c122_0q (slices_IndexFunc_int64__lim_isRow_fn1__lim_isNet_L0 k k) d, fun b x _ K => match x with | .inl x => K (.exit 0) (stOf b X0_122_0q ((), ())) | .inr x => K .ret (stOf b X1_122_0q (((x, ()), ()), ()))⟩
noncomputable def E122q : Env := ⟨prog, fun _ => false, sumsOf [R121q]⟩
def A122q : Notes := ⟨[], [(2, L122_0q)], false⟩
theorem B122q : EnvB E122q := env_n (l := [R121q]) mixed_orders ⟨F121q, trivial⟩
theorem lk122_0q : LoopOK prog 1000 0 19 (loopAt (bodyOf f190) 0) L122_0q := lp (A := A122q) L122_0q (fun d => match d with | .inl d => .inl () | .inr d => .inr d.1.1.1) c122_0q slices_IndexFunc_int64__lim_isRow_fn1__lim_isNet_L0 slices_IndexFunc_int64__lim_isRow_fn1__lim_isNet_L0b B122q loops0
def R122q : Nat × Entry := entA 190 [.c (.dat false (.int .i64)), .fn 189 [[.fn 121]]] (.c (.int .i64)) (fun k d => slices_IndexFunc_int64__lim_isRow_fn1__lim_isNet k d.1) (fun x => (x, ()))
theorem F122q : FnOK prog R122q := fA (rs := .c (.int .i64)) f190 A122q (fun d => d.1) B122q (loops1 lk122_0q)
def R123q : Nat × Entry := entA 123 [.c (.dat false (.int .i64)), .fn 189 [[.fn 121]]] (.c (.bool)) (fun k d => slices_ContainsFunc_int64__lim_isRow_fn1__lim_isNet k d.1) (fun x => (x, ()))
theorem F123q : FnOK prog R123q := fA (rs := .c (.bool)) f123 ⟨[], [], false⟩ (fun d => d.1) (env_n (l := [R122q]) mixed_orders ⟨F122q, trivial⟩) loops0
def R124q : Nat × Entry := entA 120 [.c (.dat false (.int .i64)), .c (.int .i64), .c (.fn 121)] (.c (.bool)) (fun k d => lim_isRow__lim_isNet k d.1 d.2.1) (fun x => (x, ()))
theorem F124q : FnOK prog R124q := fA (rs := .c (.bool)) f120 ⟨[], [], false⟩ (fun d => d.1) (env_n (l := [R123q]) mixed_orders ⟨F123q, trivial⟩) loops0
def I125_0q : Spec := ⟨[(1, .c (.int .i64)), (2, .c (.lit (.fn 121 []))), (13, .c (.dat false (.sl (.int .i64)))), (14, .c (.int .i64)), (15, .c (.int .i64))], [], []⟩
def X0_125_0q : Spec := ⟨[], [], []⟩
def X1_125_0q : Spec := ⟨[(6, .c (.bool))], [], []⟩
def c125_0q (f : lim_isSquare__lim_isNet_L0T) (d : I125_0q.den) : Option (Unit ⊕ Bool) := f d.1.1.1 d.1.2.2.1.1 d.1.2.2.2.1.1 d.1.2.2.2.2.1.1
def L125_0q : LoopSum := ⟨I125_0q, [(.exit 0, X0_125_0q), (.ret, X1_125_0q)], (Unit ⊕ Bool), fun k d => c125_0q (lim_isSquare__lim_isNet_L0 k k) d, fun b x _ K => match x with | .inl x => K (.exit 0) (stOf b X0_125_0q ((), ())) | .inr x => K .ret (stOf b X1_125_0q (((x, ()), ()), ()))⟩
noncomputable def E125q : Env := ⟨prog, fun _ => false, sumsOf [R124q]⟩
def A125q : Notes := ⟨[], [(4, L125_0q)], false⟩
theorem B125q : EnvB E125q := env_n (l := [R124q]) mixed_orders ⟨F124q, trivial⟩
theorem lk125_0q : LoopOK prog 1000 0 25 (loopAt (bodyOf f118) 0) L125_0q := lp (A := A125q) L125_0q (fun d => match d with | .inl d => .inl () | .inr d => .inr d.1.1.1) c125_0q lim_isSquare__lim_isNet_L0 lim_isSquare__lim_isNet_L0b B125q loops0
def R125q : Nat × Entry := entA 118 [.c (.dat false (.sl (.int .i64))), .c (.int .i64), .c (.fn 121)] (.c (.bool)) (fun k d => lim_isSquare__lim_isNet k d.1 d.2.1) (fun x => (x, ()))
theorem F125q : FnOK prog R125q := fA (rs := .c (.bool)) f118 A125q (fun d => d.1) B125q (loops1 lk125_0q)
def I126_0q : Spec := ⟨[(0, .c (.dat false (.sl (.int .i64)))), (3, .c (.int .i64)), (7, .c (.dat false (.sl (.int .i64)))), (8, .c (.int .i64)), (9, .c (.int .i64)), (14, .c (.dat false (.int .i64))), (15, .c (.int .i64)), (16, .c (.int .i64))], [], []⟩
def X0_126_0q : Spec := ⟨[(0, .c (.dat false (.sl (.int .i64)))), (7, .c (.dat false (.sl (.int .i64)))), (8, .c (.int .i64)), (9, .c (.int .i64))], [], []⟩
def X1_126_0q : Spec := ⟨[(2, .c (.bool))], [], []⟩
def c126_0q (f : lim_isTurned_L1T) (d : I126_0q.den) : Option lim_isTurned_L1X := f d.1.1.1 d.1.2.1.1 d.1.2.2.1.1 d.1.2.2.2.1.1 d.1.2.2.2.2.1.1 d.1.2.2.2.2.2.1.1 d.1.2.2.2.2.2.2.1.1 d.1.2.2.2.2.2.2.2.1.1
def L126_0q : LoopSum := ⟨I126_0q, [(.exit 2, X0_126_0q), (.ret, X1_126_0q)], lim_isTurned_L1X, fun k d => c126_0q (lim_isTurned_L1 k k) d, fun b x _ K => match x with | .inl x => K (.exit 2) (stOf b X0_126_0q (((x.1, ()), (x.2.1, ()), (x.2.2.1, ()), (x.2.2.2, ()), ()), ())) | .inr x => K .ret (stOf b X1_126_0q (((x, ()), ()), ()))⟩
def I126_1q : Spec := ⟨[(0, .c (.dat false (.sl (.int .i64)))), (7, .c (.dat false (.sl (.int .i64)))), (8, .c (.int .i64)), (9, .c (.int .i64))], [], []⟩
def X0_126_1q : Spec := ⟨[], [], []⟩
def X1_126_1q : Spec := ⟨[(2, .c (.bool))], [], []⟩
def c126_1q (f : lim_isTurned_L0T) (d : I126_1q.den) : Option (Unit ⊕ Bool) := f d.1.1.1 d.1.2.1.1 d.1.2.2.1.1 d.1.2.2.2.1.1
def L126_1q : LoopSum := ⟨I126_1q, [(.exit 0, X0_126_1q), (.ret, X1_126_1q)], (Unit ⊕ Bool), fun k d => c126_1q (lim_isTurned_L0 k k) d, fun b x _ K => match x with | .inl x => K (.exit 0) (stOf b X0_126_1q ((), ())) | .inr x => K .ret (stOf b X1_126_1q (((x, ()), ()), ()))⟩
noncomputable def E126q : Env := ⟨prog, fun _ => false, sumsOf []⟩
def A126q : Notes := ⟨[], [(5, L126_0q), (2, L126_1q)], false⟩
theorem B126q : EnvB E126q := env_n (l := []) mixed_orders trivial
theorem lk126_0q : LoopOK prog 1000 0 33 (loopAt (loopAt (bodyOf f122) 0) 0) L126_0q := lp (A := A126q) L126_0q (fun d => match d with | .inl d => .inl (d.1.1.1, d.1.2.1.1, d.1.2.2.1.1, d.1.2.2.2.1.1) | .inr d => .inr d.1.1.1) c126_0q lim_isTurned_L1 lim_isTurned_L1b B126q loops0
theorem lk126_1q : LoopOK prog 1000 0 33 (loopAt (bodyOf f122) 0) L126_1q := lp (A := A126q) L126_1q (fun d => match d with | .inl d => .inl () | .inr d => .inr d.1.1.1) c126_1q lim_isTurned_L0 lim_isTurned_L0b B126q (loops1 lk126_0q)
def R126q : Nat × Entry := entA 122 [.c (.dat false (.sl (.int .i64)))] (.c (.bool)) (fun k d => lim_isTurned k d.1) (fun x => (x, ()))
theorem F126q : FnOK prog R126q := fA (rs := .c (.bool)) f122 A126q (fun d => d.1) B126q (loops1 lk126_1q)
def R127q : Nat × Entry := entA 65 [.agg pc17q] (.c (.bool)) (fun k d => (u0_4 (lim_Is k) d)) (fun x => (x, ()))
theorem F127q : FnOK prog R127q := fA (rs := .c (.bool)) f65 ⟨[], [], false⟩ (fun d => d.1) (env_n (l := [R113q, R119q, R118q, R125q, R126q]) mixed_orders ⟨F113q, F119q, F118q, F125q, F126q, trivial⟩) loops0
def I128_0q : Spec := ⟨[(2, .c (.lit (.ptr 1001000 0))), (4, .c (.lit (.ptr 1001001 0))), (7, .c (.lit (.ptr 1001002 0))), (24, .c (.dat false y17q)), (25, .c (.int .i64)), (26, .c (.int .i64))], [.box true cs2q, .box true cs15q, .box true cs13q, .arr true y7q, .mat, .arr true (.int .i64), .mat], []⟩
def X0_128_0q : Spec := ⟨[(2, .c (.lit (.ptr 1001000 0))), (4, .c (.lit (.ptr 1001001 0))), (7, .c (.lit (.ptr 1001002 0)))], [.box true cs2q, .box true cs15q, .box true cs13q, .arr true y7q, .mat, .arr true (.int .i64), .mat], []⟩
def c128_0q (f : post_Post_L0T) (d : I128_0q.den) : Option post_Post_L0X := (u0_4 (f d.1.2.2.2.1.1 d.1.2.2.2.2.1.1 d.1.2.2.2.2.2.1.1) d.2.1) d.2.2.2.2.1 d.2.2.2.2.2.1 d.2.2.2.2.2.2.1 d.2.2.2.2.2.2.2.1
def L128_0q : LoopSum := ⟨I128_0q, [(.exit 0, X0_128_0q)], post_Post_L0X, fun k d => c128_0q (post_Post_L0 k k) d, fun b x _ K => K (.exit 0) (stOf b X0_128_0q (((), (), (), ()), ((j0_4 x ()), (), (), x.2.2.2.2.1, x.2.2.2.2.2.1, x.2.2.2.2.2.2.1, x.2.2.2.2.2.2.2, ())))⟩
noncomputable def E128q : Env := ⟨prog, fun _ => false, sumsOf [R110q, R51q, R71q, R127q]⟩
def A128q : Notes := ⟨[], [(6, L128_0q)], false⟩
theorem B128q : EnvB E128q := env_n (l := [R110q, R51q, R71q, R127q]) mixed_orders ⟨F110q, F51q, F71q, F127q, trivial⟩
theorem lk128_0q : LoopOK prog 1000 0 104 (loopAt (bodyOf f200) 0) L128_0q := lp (A := A128q) L128_0q (fun d => (j0_4 d.2.1 (d.2.2.2.2.1, d.2.2.2.2.2.1, d.2.2.2.2.2.2.1, d.2.2.2.2.2.2.2.1))) c128_0q post_Post_L0 post_Post_L0b B128q loops0
def R128q : Nat × Entry := entA 200 [.agg pc18q, .c (.dat false y17q)] (.tup [(true, rc26q), (false, rc27q)]) (fun k d => (u0_5 (post_Post k) d)) (fun x => (f0_5 x ()))
theorem F128q : FnOK prog R128q := fA (rs := .tup [(true, rc26q), (false, rc27q)]) f200 A128q (fun d => (g0_5 d)) B128q (loops1 lk128_0q)
def I129_0q : Spec := ⟨[(3, .c (.lit (.ptr 1001000 0))), (6, .c (.lit (.ptr 1001001 0))), (7, .c (.lit (.ptr 1001002 0))), (15, .c (.lit (.osl 1001003 none))), (16, .c (.int .i64)), (17, .c (.int .i64))], [.box true cs2q, .box true cs7q, .box true cs15q, .arr true y17q], []⟩
def X0_129_0q : Spec := ⟨[(3, .c (.lit (.ptr 1001000 0))), (6, .c (.lit (.ptr 1001001 0))), (7, .c (.lit (.ptr 1001002 0)))], [.box true cs2q, .box true cs7q, .box true cs15q], []⟩
def X1_129_0q : Spec := ⟨[(6, .c (.lit (.ptr 1001000 0))), (7, .c (.lit (.ptr 1001001 0))), (8, .c (.bool))], [.box true cs7q, .box true cs2q], []⟩
def c129_0q (f : free_next_L0T) (d : I129_0q.den) : Option free_next_L0X := (u0_7 (u0_4 (f d.1.2.2.2.2.1.1 d.1.2.2.2.2.2.1.1) d.2.1) d.2.2.1) d.2.2.2.2.1
def L129_0q : LoopSum := ⟨I129_0q, [(.exit 0, X0_129_0q), (.ret, X1_129_0q)], free_next_L0X, fun k d => c129_0q (free_next_L0 k k) d, fun b x _ K => match x with | .inl x => K (.exit 0) (stOf b X0_129_0q (((), (), (), ()), ((j0_4 x ()), (f4_7 x ()), (), ()))) | .inr x => K .ret (stOf b X1_129_0q (((), (), (x.1, ()), ()), ((j1_7 x ()), (f8_4 x ()), ())))⟩
noncomputable def E129q : Env := ⟨prog, fun _ => false, sumsOf [R91q, R107q, R128q]⟩
def A129q : Notes := ⟨[], [(2, L129_0q)], false⟩
theorem B129q : EnvB E129q := env_n (l := [R91q, R107q, R128q]) mixed_orders ⟨F91q, F107q, F128q, trivial⟩
theorem lk129_0q : LoopOK prog 1000 0 40 (loopAt (bodyOf f143) 0) L129_0q := lp (A := A129q) L129_0q (fun d => match d with | .inl d => .inl (j0_4 d.2.1 (g0_7 d.2.2.1)) | .inr d => .inr (d.1.2.2.1.1, (j0_7 d.2.1 (g0_4 d.2.2.1)))) c129_0q free_next_L0 free_next_L0b B129q loops0
def R129q : Nat × Entry := entA 143 [.agg pc18q, .c (.dat true y17q), .c (.int .i64)] (.tup [(true, rc32q), (true, rc26q), (false, [.bool])]) (fun k d => (u0_6 (free_next k) d)) (fun x => (f0_12 x ()))
theorem F129q : FnOK prog R129q := fA (rs := .tup [(true, rc32q), (true, rc26q), (false, [.bool])]) f143 A129q (fun d => (g0_12 d)) B129q (loops1 lk129_0q)
def I130_0q : Spec := ⟨[(2, .c (.int .i64)), (6, .c (.lit (.ptr 1001000 0))), (7, .c (.dat true y17q)), (8, .c (.lit (.osl 1001001 none)))], [.box true cs2q, .arr true y17q], [(8, none, y17q, false)]⟩
def X0_130_0q : Spec := ⟨[(6, .c (.lit (.ptr 1001000 0))), (7, .c (.dat true y17q)), (8, .c (.lit (.osl 1001001 none)))], [.box true cs2q, .arr true y17q], []⟩
def c130_0q (f : free_Run_L0T) (d : I130_0q.den) : Option free_Run_L0X := (u0_4 (f d.1.1.1 d.1.2.2.1.1) d.2.1) d.2.2.1
def L130_0q : LoopSum := ⟨I130_0q, [(.ret, X0_130_0q)], free_Run_L0X, fun k d => c130_0q (free_Run_L0 k k) d, fun b x _ K => K .ret (stOf b X0_130_0q (((), (x.1, ()), (), ()), ((j1_4 x ()), x.2.2.2.2.2, ())))⟩
noncomputable def E130q : Env := ⟨prog, fun _ => false, sumsOf [R129q, R41q]⟩
def A130q : Notes := ⟨[], [(2, L130_0q)], false⟩
theorem B130q : EnvB E130q := env_n (l := [R129q, R41q]) mixed_orders ⟨F129q, F41q, trivial⟩
theorem lk130_0q : LoopOK prog 1000 0 40 (loopAt (bodyOf f216) 0) L130_0q := lp (A := A130q) L130_0q (fun d => (d.1.2.1.1, (j0_4 d.2.1 d.2.2.1))) c130_0q free_Run_L0 free_Run_L0b B130q loops0
def R130q : Nat × Entry := entA 216 [.agg pc18q, .c (.dat true y17q), .c (.int .i64)] (.tup [(true, rc26q), (false, [.fro y17q]), (false, [.own y17q])]) (fun k d => (u0_6 (free_Run k) d)) (fun x => (f0_6 x ()))
theorem F130q : FnOK prog R130q := fA (rs := .tup [(true, rc26q), (false, [.fro y17q]), (false, [.own y17q])]) f216 A130q (fun d => (g0_6 d)) B130q (loops1 lk130_0q)
def I131_0q : Spec := ⟨[(3, .c (.lit (.ptr 1001000 0))), (6, .c (.lit (.ptr 1001001 0))), (8, .c (.lit (.osl 1001002 none))), (10, .c (.lit (.ptr 1001003 0))), (18, .c (.lit (.osl 1001002 none))), (19, .c (.int .i64)), (20, .c (.int .i64)), (24, .c (.lit (.osl 1001002 none))), (25, .c (.int .i64)), (26, .c (.int .i64))], [.box true cs2q, .box true cs9q, .arr true y17q, .box true cs7q], []⟩
def X0_131_0q : Spec := ⟨[(3, .c (.lit (.ptr 1001000 0))), (6, .c (.lit (.ptr 1001001 0))), (8, .c (.lit (.osl 1001002 none))), (18, .c (.lit (.osl 1001002 none))), (19, .c (.int .i64)), (20, .c (.int .i64))], [.box true cs2q, .box true cs9q, .arr true y17q], []⟩
def X1_131_0q : Spec := ⟨[(6, .c (.lit (.ptr 1001000 0))), (7, .c (.bool))], [.box true cs8q], []⟩
def c131_0q (f : pair_next_L1T) (d : I131_0q.den) : Option pair_next_L1X := (u0_7 ((u0_14 (u0_4 (f d.1.2.2.2.2.2.1.1 d.1.2.2.2.2.2.2.1.1 d.1.2.2.2.2.2.2.2.2.1.1 d.1.2.2.2.2.2.2.2.2.2.1.1) d.2.1) d.2.2.1) d.2.2.2.1) d.2.2.2.2.1)
def L131_0q : LoopSum := ⟨I131_0q, [(.exit 2, X0_131_0q), (.ret, X1_131_0q)], pair_next_L1X, fun k d => c131_0q (pair_next_L1 k k) d, fun b x _ K => match x with | .inl x => K (.exit 2) (stOf b X0_131_0q (((), (), (), (), (x.1, ()), (x.2.1, ()), ()), ((j2_4 x ()), (j6_14 x ()), x.2.2.2.2.2.2.2.2.2.2.2.2.2.2.2.2.2.2.2.2, ()))) | .inr x => K .ret (stOf b X1_131_0q (((), (x.1, ()), ()), ((f1_18 x ()), ())))⟩
def I131_1q : Spec := ⟨[(3, .c (.lit (.ptr 1001000 0))), (6, .c (.lit (.ptr 1001001 0))), (8, .c (.lit (.osl 1001002 none))), (18, .c (.lit (.osl 1001002 none))), (19, .c (.int .i64)), (20, .c (.int .i64))], [.box true cs2q, .box true cs9q, .arr true y17q], []⟩
def X0_131_1q : Spec := ⟨[(6, .c (.lit (.ptr 1001000 0)))], [.box true cs9q], []⟩
def X1_131_1q : Spec := ⟨[(6, .c (.lit (.ptr 1001000 0))), (7, .c (.bool))], [.box true cs8q], []⟩
def c131_1q (f : pair_next_L0T) (d : I131_1q.den) : Option pair_next_L0X := (u0_14 (u0_4 (f d.1.2.2.2.2.1.1 d.1.2.2.2.2.2.1.1) d.2.1) d.2.2.1) d.2.2.2.1
def L131_1q : LoopSum := ⟨I131_1q, [(.exit 0, X0_131_1q), (.ret, X1_131_1q)], pair_next_L0X, fun k d => c131_1q (pair_next_L0 k k) d, fun b x _ K => match x with | .inl x => K (.exit 0) (stOf b X0_131_1q (((), ()), ((f0_14 x ()), ()))) | .inr x => K .ret (stOf b X1_131_1q (((), (x.1, ()), ()), ((f1_18 x ()), ())))⟩
noncomputable def E131q : Env := ⟨prog, fun _ => false, sumsOf [R91q, R107q, R128q]⟩
def A131q : Notes := ⟨[], [(6, L131_0q), (3, L131_1q)], false⟩
theorem B131q : EnvB E131q := env_n (l := [R91q, R107q, R128q]) mixed_orders ⟨F91q, F107q, F128q, trivial⟩
theorem lk131_0q : LoopOK prog 1000 0 74 (loopAt (loopAt (bodyOf f248) 0) 0) L131_0q := lp (A := A131q) L131_0q (fun d => match d with | .inl d => .inl (d.1.2.2.2.2.1.1, d.1.2.2.2.2.2.1.1, (j0_4 d.2.1 (j0_14 d.2.2.1 d.2.2.2.1))) | .inr d => .inr (d.1.2.1.1, (g0_18 d.2.1))) c131_0q pair_next_L1 pair_next_L1b B131q loops0
theorem lk131_1q : LoopOK prog 1000 0 74 (loopAt (bodyOf f248) 0) L131_1q := lp (A := A131q) L131_1q (fun d => match d with | .inl d => .inl (g0_14 d.2.1) | .inr d => .inr (d.1.2.1.1, (g0_18 d.2.1))) c131_1q pair_next_L0 pair_next_L0b B131q (loops1 lk131_0q)
def R131q : Nat × Entry := entA 248 [.agg pc18q, .c (.dat true y17q), .c (.int .i64)] (.tup [(true, rc34q), (false, [.bool])]) (fun k d => (u0_6 (pair_next k) d)) (fun x => (f0_19 x ()))
theorem F131q : FnOK prog R131q := fA (rs := .tup [(true, rc34q), (false, [.bool])]) f248 A131q (fun d => (g0_19 d)) B131q (loops1 lk131_1q)
def I132_0q : Spec := ⟨[(2, .c (.int .i64)), (6, .c (.lit (.ptr 1001000 0))), (7, .c (.dat true y17q)), (8, .c (.lit (.osl 1001001 none))), (33, .c (.lit (.osl 1001002 none))), (34, .c (.int .i64)), (35, .c (.int .i64))], [.box true cs2q, .arr true y17q, .arr true y17q], [(8, none, y17q, false)]⟩
def X0_132_0q : Spec := ⟨[(2, .c (.int .i64)), (6, .c (.lit (.ptr 1001000 0))), (7, .c (.dat true y17q)), (8, .c (.lit (.osl 1001001 none)))], [.box true cs2q, .arr true y17q], []⟩
def c132_0q (f : pair_Run_L1T) (d : I132_0q.den) : Option pair_Run_L1X := (u0_4 (f d.1.1.1 d.1.2.2.1.1 d.1.2.2.2.2.2.1.1 d.1.2.2.2.2.2.2.1.1) d.2.1) d.2.2.1 d.2.2.2.1
def L132_0q : LoopSum := ⟨I132_0q, [(.exit 2, X0_132_0q)], pair_Run_L1X, fun k d => c132_0q (pair_Run_L1 k k) d, fun b x _ K => K (.exit 2) (stOf b X0_132_0q (((x.1, ()), (), (x.2.1, ()), (), ()), ((j2_4 x ()), x.2.2.2.2.2.2, ())))⟩
def I132_1q : Spec := ⟨[(2, .c (.int .i64)), (6, .c (.lit (.ptr 1001000 0))), (7, .c (.dat true y17q)), (8, .c (.lit (.osl 1001001 none)))], [.box true cs2q, .arr true y17q], [(8, none, y17q, false)]⟩
def X0_132_1q : Spec := ⟨[(6, .c (.lit (.ptr 1001000 0))), (7, .c (.dat true y17q)), (8, .c (.lit (.osl 1001001 none)))], [.box true cs2q, .arr true y17q], []⟩
def c132_1q (f : pair_Run_L0T) (d : I132_1q.den) : Option pair_Run_L0X := (u0_4 (f d.1.1.1 d.1.2.2.1.1) d.2.1) d.2.2.1
def L132_1q : LoopSum := ⟨I132_1q, [(.ret, X0_132_1q)], pair_Run_L0X, fun k d => c132_1q (pair_Run_L0 k k) d, fun b x _ K => K .ret (stOf b X0_132_1q (((), (x.1, ()), (), ()), ((j1_4 x ()), x.2.2.2.2.2, ())))⟩
noncomputable def E132q : Env := ⟨prog, fun _ => false, sumsOf [R131q, R41q]⟩
def A132q : Notes := ⟨[], [(7, L132_0q), (2, L132_1q)], false⟩
theorem B132q : EnvB E132q := env_n (l := [R131q, R41q]) mixed_orders ⟨F131q, F41q, trivial⟩
theorem lk132_0q : LoopOK prog 1000 0 52 (loopAt (loopAt (bodyOf f217) 0) 0) L132_0q := lp (A := A132q) L132_0q (fun d => (d.1.1.1, d.1.2.2.1.1, (j0_4 d.2.1 d.2.2.1))) c132_0q pair_Run_L1 pair_Run_L1b B132q loops0
theorem lk132_1q : LoopOK prog 1000 0 52 (loopAt (bodyOf f217) 0) L132_1q := lp (A := A132q) L132_1q (fun d => (d.1.2.1.1, (j0_4 d.2.1 d.2.2.1))) c132_1q pair_Run_L0 pair_Run_L0b B132q (loops1 lk132_0q)
def R132q : Nat × Entry := entA 217 [.agg pc18q, .c (.dat true y17q), .c (.int .i64)] (.tup [(true, rc26q), (false, [.fro y17q]), (false, [.own y17q])]) (fun k d => (u0_6 (pair_Run k) d)) (fun x => (f0_6 x ()))
theorem F132q : FnOK prog R132q := fA (rs := .tup [(true, rc26q), (false, [.fro y17q]), (false, [.own y17q])]) f217 A132q (fun d => (g0_6 d)) B132q (loops1 lk132_1q)
def I133_0q : Spec := ⟨[(2, .c (.int .i64)), (6, .c (.lit (.ptr 1001000 0))), (7, .c (.dat true y17q)), (8, .c (.lit (.osl 1001001 none)))], [.box true cs2q, .arr true y17q], [(8, none, y17q, false)]⟩
def X0_133_0q : Spec := ⟨[(6, .c (.lit (.ptr 1001000 0))), (7, .c (.dat true y17q)), (8, .c (.lit (.osl 1001001 none)))], [.box true cs2q, .arr true y17q], []⟩
def c133_0q (f : settle_some_L0T) (d : I133_0q.den) : Option settle_some_L0X := (u0_4 (f d.1.1.1 d.1.2.2.1.1) d.2.1) d.2.2.1
def L133_0q : LoopSum := ⟨I133_0q, [(.ret, X0_133_0q)], settle_some_L0X, fun k d => c133_0q (settle_some_L0 k k) d, fun b x _ K => K .ret (stOf b X0_133_0q (((), (x.1, ()), (), ()), ((j1_4 x ()), x.2.2.2.2.2, ())))⟩
noncomputable def E133q : Env := ⟨prog, fun _ => false, sumsOf [R130q, R132q]⟩
def A133q : Notes := ⟨[], [(2, L133_0q)], false⟩
theorem B133q : EnvB E133q := env_n (l := [R130q, R132q]) mixed_orders ⟨F130q, F132q, trivial⟩
theorem lk133_0q : LoopOK prog 1000 0 40 (loopAt (bodyOf f172) 0) L133_0q := lp (A := A133q) L133_0q (fun d => (d.1.2.1.1, (j0_4 d.2.1 d.2.2.1))) c133_0q settle_some_L0 settle_some_L0b B133q loops0
def R133q : Nat × Entry := entA 172 [.agg pc18q, .c (.dat true y17q), .c (.int .i64)] (.tup [(true, rc26q), (false, [.fro y17q]), (false, [.own y17q])]) (fun k d => (u0_6 (settle_some k) d)) (fun x => (f0_6 x ()))
theorem F133q : FnOK prog R133q := fA (rs := .tup [(true, rc26q), (false, [.fro y17q]), (false, [.own y17q])]) f172 A133q (fun d => (g0_6 d)) B133q (loops1 lk133_0q)
def R134q : Nat × Entry := entC 249 false (.int .i64) (.own (.int .i64)) slices_Clone_int
theorem F134q : FnOK prog R134q := fC f249 ⟨[], [], false⟩ (env_n (l := []) mixed_orders trivial) loops0
def R135q : Nat × Entry := entX 250 [.agg pc24q, .ptr true [.own (.int .i64)]] (.c (.bool)) [[.own (.int .i64)]] (fun k d => (u0_8 (view_Heads_fn1 k) d)) (fun x => (x.1, x.2, ()))
theorem F135q : FnOK prog R135q := fX (rs := .c (.bool)) (os := [[.own (.int .i64)]]) f250 ⟨[], [], false⟩ 2 (fun d => (d.1, d.2.1)) (env_n (l := []) mixed_orders trivial) loops0
def I136_0q : Spec := ⟨[(1, .c (.lit (.fn 250 [1001000]))), (5, .c (.lit (.osl 1001002 none))), (8, .c (.dat false y17q)), (9, .c (.int .i64)), (10, .c (.int .i64))], [.box true [.lit (.osl 1001001 none)], .arr true (.int .i64), .arr true y17q], [(5, none, y17q, false)]⟩
def X0_136_0q : Spec := ⟨[(1, .c (.lit (.fn 250 [1001000]))), (5, .c (.lit (.osl 1001002 none)))], [.box true [.lit (.osl 1001001 none)], .arr true (.int .i64), .arr true y17q], []⟩
def c136_0q (f : view_all__view_Heads_fn1_L0T) (d : I136_0q.den) : Option view_all__view_Heads_fn1_L0X := f d.1.2.2.1.1 d.1.2.2.2.1.1 d.1.2.2.2.2.1.1 d.2.2.1 d.2.2.2.1
def L136_0q : LoopSum := ⟨I136_0q, [(.exit 0, X0_136_0q)], view_all__view_Heads_fn1_L0X, fun k d => c136_0q (view_all__view_Heads_fn1_L0 k k) d, fun b x _ K => K (.exit 0) (stOf b X0_136_0q (((), (), ()), ((), x.1, x.2, ())))⟩
noncomputable def E136q : Env := ⟨prog, fun _ => false, sumsOf [R135q]⟩
def A136q : Notes := ⟨[], [(3, L136_0q)], false⟩
theorem B136q : EnvB E136q := env_n (l := [R135q]) mixed_orders ⟨F135q, trivial⟩
theorem lk136_0q : LoopOK prog 1000 2 23 (loopAt (bodyOf f153) 0) L136_0q := lp (A := A136q) L136_0q (fun d => (d.2.2.1, d.2.2.2.1)) c136_0q view_all__view_Heads_fn1_L0 view_all__view_Heads_fn1_L0b B136q loops0
def R136q : Nat × Entry := entX 153 [.c (.p (.dat false y17q)), .fn 250 [(true, [.own (.int .i64)])]] (.c (.own y17q)) [[.own (.int .i64)]] (fun k d => view_all__view_Heads_fn1 k d.1 d.2.1) (fun x => (x.1, x.2, ()))
theorem F136q : FnOK prog R136q := fX (rs := .c (.own y17q)) (os := [[.own (.int .i64)]]) f153 A136q 2 (fun d => (d.1, d.2.1)) B136q (loops1 lk136_0q)
def R137q : Nat × Entry := entA 219 [.c (.dat false y17q), .c (.dat false (.int .i64))] (.c (.own y17q)) (fun k d => view_Heads k d.1 d.2.1) (fun x => (x, ()))
theorem F137q : FnOK prog R137q := fA (rs := .c (.own y17q)) f219 ⟨[], [], false⟩ (fun d => d.1) (env_n (l := [R134q, R136q]) mixed_orders ⟨F134q, F136q, trivial⟩) loops0
def I138_0q : Spec := ⟨[(3, .c (.lit (.ptr 1001000 0))), (6, .c (.lit (.osl 1001001 none))), (7, .c (.int .i64)), (8, .c (.lit (.osl 1001002 none))), (18, .c (.int .i64)), (19, .c (.int .i64))], [.box true cs1q, .arr true (.int .i64), .arr true y17q], [(6, none, (.int .i64), false)]⟩
def X0_138_0q : Spec := ⟨[(3, .c (.lit (.ptr 1001000 0))), (6, .c (.lit (.osl 1001001 none))), (7, .c (.int .i64)), (8, .c (.lit (.osl 1001002 none)))], [.box true cs1q, .arr true (.int .i64), .arr true y17q], []⟩
def c138_0q (f : knot_Most_L0T) (d : I138_0q.den) : Option knot_Most_L0X := (u0_4 (f d.1.2.2.1.1 d.1.2.2.2.2.1.1 d.1.2.2.2.2.2.1.1) d.2.1) d.2.2.1 d.2.2.2.1
def L138_0q : LoopSum := ⟨I138_0q, [(.exit 0, X0_138_0q)], knot_Most_L0X, fun k d => c138_0q (knot_Most_L0 k k) d, fun b x _ K => K (.exit 0) (stOf b X0_138_0q (((), (), (x.1, ()), (), ()), ((j1_4 x ()), x.2.2.2.2.2.1, x.2.2.2.2.2.2, ())))⟩
def I138_1q : Spec := ⟨[(3, .c (.lit (.ptr 1001000 0))), (6, .c (.lit (.osl 1001001 none))), (7, .c (.int .i64)), (8, .c (.lit (.osl 1001002 none))), (42, .c (.lit (.osl 1001003 none))), (43, .c (.int .i64)), (44, .c (.int .i64))], [.box true cs1q, .arr true (.int .i64), .arr true y17q, .arr true (.int .i64)], []⟩
def X0_138_1q : Spec := ⟨[(3, .c (.lit (.ptr 1001000 0))), (6, .c (.lit (.osl 1001001 none))), (7, .c (.int .i64)), (8, .c (.lit (.osl 1001002 none)))], [.box true cs1q, .arr true (.int .i64), .arr true y17q], []⟩
def c138_1q (f : knot_Most_L2T) (d : I138_1q.den) : Option knot_Most_L2X := (u0_4 (f d.1.2.2.1.1 d.1.2.2.2.2.2.1.1 d.1.2.2.2.2.2.2.1.1) d.2.1) d.2.2.1 d.2.2.2.1 d.2.2.2.2.1
def L138_1q : LoopSum := ⟨I138_1q, [(.exit 4, X0_138_1q)], knot_Most_L2X, fun k d => c138_1q (knot_Most_L2 k k) d, fun b x _ K => K (.exit 4) (stOf b X0_138_1q (((), (), (x.1, ()), (), ()), ((j1_4 x ()), x.2.2.2.2.2.1, x.2.2.2.2.2.2, ())))⟩
def I138_2q : Spec := ⟨[(3, .c (.lit (.ptr 1001000 0))), (6, .c (.lit (.osl 1001001 none))), (7, .c (.int .i64)), (8, .c (.lit (.osl 1001002 none)))], [.box true cs1q, .arr true (.int .i64), .arr true y17q], []⟩
def X0_138_2q : Spec := ⟨[(6, .c (.lit (.osl 1001000 none))), (7, .c (.int .i64))], [.arr true (.int .i64)], []⟩
def c138_2q (f : knot_Most_L1T) (d : I138_2q.den) : Option (Int × (List Int)) := (u0_4 (f d.1.2.2.1.1) d.2.1) d.2.2.1 d.2.2.2.1
def L138_2q : LoopSum := ⟨I138_2q, [(.ret, X0_138_2q)], (Int × (List Int)), fun k d => c138_2q (knot_Most_L1 k k) d, fun b x _ K => K .ret (stOf b X0_138_2q (((), (x.1, ()), ()), (x.2, ())))⟩
noncomputable def E138q : Env := ⟨prog, fun _ => false, sumsOf [R85q, R12q, R137q, R106q]⟩
def A138q : Notes := ⟨[], [(3, L138_0q), (12, L138_1q), (7, L138_2q)], false⟩
theorem B138q : EnvB E138q := env_n (l := [R85q, R12q, R137q, R106q]) mixed_orders ⟨F85q, F12q, F137q, F106q, trivial⟩
theorem lk138_0q : LoopOK prog 1000 0 55 (loopAt (bodyOf f218) 0) L138_0q := lp (A := A138q) L138_0q (fun d => (d.1.2.2.1.1, (j0_4 d.2.1 (d.2.2.1, d.2.2.2.1)))) c138_0q knot_Most_L0 knot_Most_L0b B138q loops0
theorem lk138_1q : LoopOK prog 1000 0 55 (loopAt (loopAt (bodyOf f218) 1) 0) L138_1q := lp (A := A138q) L138_1q (fun d => (d.1.2.2.1.1, (j0_4 d.2.1 (d.2.2.1, d.2.2.2.1)))) c138_1q knot_Most_L2 knot_Most_L2b B138q loops0
theorem lk138_2q : LoopOK prog 1000 0 55 (loopAt (bodyOf f218) 1) L138_2q := lp (A := A138q) L138_2q (fun d => (d.1.2.1.1, d.2.1)) c138_2q knot_Most_L1 knot_Most_L1b B138q (loops1 lk138_1q)
def R138q : Nat × Entry := entA 218 [.agg pc17q, .c (.dat false y17q), .c (.int .i64)] (.tup [(false, [.own (.int .i64)]), (false, rc27q)]) (fun k d => (u0_6 (knot_Most k) d)) (fun x => (x.1, x.2, ()))
theorem F138q : FnOK prog R138q := fA (rs := .tup [(false, [.own (.int .i64)]), (false, rc27q)]) f218 A138q (fun d => (d.1, d.2.1)) B138q (loopsOK_of (n := 2) (by kernel_rfl) fun i hi => match i, hi with | 0, _ => ⟨L138_0q, by kernel_rfl, lk138_0q⟩ | 1, _ => ⟨L138_2q, by kernel_rfl, lk138_2q⟩ | i + 2, hi => absurd hi (by omega))
def I139_0q : Spec := ⟨[(6, .c (.lit (.ptr 1001000 0))), (7, .c (.dat true y17q)), (11, .c (.lit (.osl 1001001 none))), (38, .c (.lit (.osl 1001001 none))), (39, .c (.int .i64)), (40, .c (.int .i64))], [.box true cs2q, .arr true y17q], []⟩
def X0_139_0q : Spec := ⟨[(6, .c (.lit (.ptr 1001000 0))), (7, .c (.dat true y17q)), (11, .c (.lit (.osl 1001001 none)))], [.box true cs2q, .arr true y17q], []⟩
def c139_0q (f : knot_Run_L0T) (d : I139_0q.den) : Option knot_Run_L0X := (u0_4 (f d.1.2.1.1 d.1.2.2.2.2.1.1 d.1.2.2.2.2.2.1.1) d.2.1) d.2.2.1
def L139_0q : LoopSum := ⟨I139_0q, [(.exit 0, X0_139_0q)], knot_Run_L0X, fun k d => c139_0q (knot_Run_L0 k k) d, fun b x _ K => K (.exit 0) (stOf b X0_139_0q (((), (x.1, ()), (), ()), ((j1_4 x ()), x.2.2.2.2.2, ())))⟩
noncomputable def E139q : Env := ⟨prog, fun _ => false, sumsOf [R138q, R85q, R137q, R128q, R41q]⟩
def A139q : Notes := ⟨[], [(8, L139_0q)], false⟩
theorem B139q : EnvB E139q := env_n (l := [R138q, R85q, R137q, R128q, R41q]) mixed_orders ⟨F138q, F85q, F137q, F128q, F41q, trivial⟩
theorem lk139_0q : LoopOK prog 1000 0 56 (loopAt (bodyOf f173) 0) L139_0q := lp (A := A139q) L139_0q (fun d => (d.1.2.1.1, (j0_4 d.2.1 d.2.2.1))) c139_0q knot_Run_L0 knot_Run_L0b B139q loops0
def R139q : Nat × Entry := entA 173 [.agg pc18q, .c (.dat true y17q), .c (.int .i64)] (.tup [(true, rc26q), (false, [.fro y17q]), (false, [.own y17q])]) (fun k d => (u0_6 (knot_Run k) d)) (fun x => (f0_6 x ()))
theorem F139q : FnOK prog R139q := fA (rs := .tup [(true, rc26q), (false, [.fro y17q]), (false, [.own y17q])]) f173 A139q (fun d => (g0_6 d)) B139q (loops1 lk139_0q)
def R140q : Nat × Entry := entA 96 [.agg pc18q, .c (.dat true y17q), .c (.int .i64), .c (.bool)] (.tup [(true, rc26q), (false, [.fro y17q]), (false, [.own y17q])]) (fun k d => (u0_7 (settle_Run k) d)) (fun x => (f0_6 x ()))
theorem F140q : FnOK prog R140q := fA (rs := .tup [(true, rc26q), (false, [.fro y17q]), (false, [.own y17q])]) f96 ⟨[], [], false⟩ (fun d => (g0_6 d)) (env_n (l := [R133q, R139q]) mixed_orders ⟨F133q, F139q, trivial⟩) loops0
def I141_0q : Spec := ⟨[(3, .c (.lit (.osl 1001000 none))), (5, .c (.lit (.ptr 1001001 0))), (8, .c (.dat false y17q)), (9, .c (.int .i64)), (10, .c (.int .i64)), (18, .c (.lit (.osl 1001002 none))), (19, .c (.int .i64)), (20, .c (.int .i64))], [.arr true y18q, .box true cs7q, .arr true (.int .i64)], [(3, none, y18q, false)]⟩
def X0_141_0q : Spec := ⟨[(3, .c (.lit (.osl 1001000 none))), (8, .c (.dat false y17q)), (9, .c (.int .i64)), (10, .c (.int .i64))], [.arr true y18q], []⟩
def c141_0q (f : hour_Told_L1T) (d : I141_0q.den) : Option hour_Told_L1X := (u0_7 (f d.1.2.2.1.1 d.1.2.2.2.1.1 d.1.2.2.2.2.1.1 d.1.2.2.2.2.2.2.1.1 d.1.2.2.2.2.2.2.2.1.1 d.2.1) d.2.2.1) d.2.2.2.1
def L141_0q : LoopSum := ⟨I141_0q, [(.exit 2, X0_141_0q)], hour_Told_L1X, fun k d => c141_0q (hour_Told_L1 k k) d, fun b x _ K => K (.exit 2) (stOf b X0_141_0q (((), (x.1, ()), (x.2.1, ()), (x.2.2.1, ()), ()), (x.2.2.2, ())))⟩
def I141_1q : Spec := ⟨[(3, .c (.lit (.osl 1001000 none))), (8, .c (.dat false y17q)), (9, .c (.int .i64)), (10, .c (.int .i64))], [.arr true y18q], [(3, none, y18q, false)]⟩
def X0_141_1q : Spec := ⟨[(3, .c (.lit (.osl 1001000 none)))], [.arr true y18q], []⟩
def c141_1q (f : hour_Told_L0T) (d : I141_1q.den) : Option hour_Told_L0X := f d.1.2.1.1 d.1.2.2.1.1 d.1.2.2.2.1.1 d.2.1
def L141_1q : LoopSum := ⟨I141_1q, [(.exit 0, X0_141_1q)], hour_Told_L0X, fun k d => c141_1q (hour_Told_L0 k k) d, fun b x _ K => K (.exit 0) (stOf b X0_141_1q (((), ()), (x, ())))⟩
noncomputable def E141q : Env := ⟨prog, fun _ => false, sumsOf [R78q]⟩
def A141q : Notes := ⟨[], [(6, L141_0q), (3, L141_1q)], false⟩
theorem B141q : EnvB E141q := env_n (l := [R78q]) mixed_orders ⟨F78q, trivial⟩
theorem lk141_0q : LoopOK prog 1000 0 41 (loopAt (loopAt (bodyOf f97) 0) 0) L141_0q := lp (A := A141q) L141_0q (fun d => (d.1.2.1.1, d.1.2.2.1.1, d.1.2.2.2.1.1, d.2.1)) c141_0q hour_Told_L1 hour_Told_L1b B141q loops0
theorem lk141_1q : LoopOK prog 1000 0 41 (loopAt (bodyOf f97) 0) L141_1q := lp (A := A141q) L141_1q (fun d => d.2.1) c141_1q hour_Told_L0 hour_Told_L0b B141q (loops1 lk141_0q)
def R141q : Nat × Entry := entA 97 [.c (.dat false y17q)] (.c (.own y18q)) (fun k d => hour_Told k d.1) (fun x => (x, ()))
theorem F141q : FnOK prog R141q := fA (rs := .c (.own y18q)) f97 A141q (fun d => d.1) B141q (loops1 lk141_1q)
def R142q : Nat × Entry := entA 50 [.agg pc22q, .c (.bool)] (.tup [(true, rc29q), (false, [.own y18q])]) (fun k d => (u0_12 (hour_Settle k) d)) (fun x => (f0_12 x ()))
theorem F142q : FnOK prog R142q := fA (rs := .tup [(true, rc29q), (false, [.own y18q])]) f50 ⟨[], [], false⟩ (fun d => (g0_12 d)) (env_n (l := [R140q, R141q]) mixed_orders ⟨F140q, F141q, trivial⟩) loops0
def I143_0q : Spec := ⟨[(2, .c (.lit (.ptr 1001000 0))), (3, .c (.lit (.ptr 1001001 0))), (4, .c (.lit (.ptr 1001002 0))), (6, .c (.lit (.osl 1001003 none))), (7, .c (.lit (.osl 1001004 none))), (27, .c (.dat true y17q)), (28, .c (.int .i64)), (29, .c (.int .i64))], [.box true cs3q, .box true cs6q, .box true cs11q, .arr true y18q, .arr true y17q], [(6, none, y18q, false), (7, none, y17q, false)]⟩
def X0_143_0q : Spec := ⟨[(2, .c (.lit (.ptr 1001000 0))), (3, .c (.lit (.ptr 1001001 0))), (4, .c (.lit (.ptr 1001002 0))), (6, .c (.lit (.osl 1001003 none))), (7, .c (.lit (.osl 1001004 none)))], [.box true cs3q, .box true cs6q, .box true cs11q, .arr true y18q, .arr true y17q], []⟩
def c143_0q (f : hour_Tick_L0T) (d : I143_0q.den) : Option hour_Tick_L0X := (u0_11 (u0_5 (f d.1.2.2.2.2.2.1.1 d.1.2.2.2.2.2.2.1.1 d.1.2.2.2.2.2.2.2.1.1) d.2.1) d.2.2.1) d.2.2.2.1.1 d.2.2.2.1.2.1 d.2.2.2.1.2.2.1 d.2.2.2.2.1 d.2.2.2.2.2.1
def L143_0q : LoopSum := ⟨I143_0q, [(.exit 0, X0_143_0q)], hour_Tick_L0X, fun k d => c143_0q (hour_Tick_L0 k k) d, fun b x _ K => K (.exit 0) (stOf b X0_143_0q (((), (), (), (), (), ()), ((j0_5 x ()), (j5_11 x ()), (x.2.2.2.2.2.2.2.2.2.2.2.2.2.2.2.2.1, x.2.2.2.2.2.2.2.2.2.2.2.2.2.2.2.2.2.1, x.2.2.2.2.2.2.2.2.2.2.2.2.2.2.2.2.2.2.1, ()), x.2.2.2.2.2.2.2.2.2.2.2.2.2.2.2.2.2.2.2.1, x.2.2.2.2.2.2.2.2.2.2.2.2.2.2.2.2.2.2.2.2, ())))⟩
noncomputable def E143q : Env := ⟨prog, fun _ => false, sumsOf [R77q, R79q, R80q, R78q, R81q, R142q]⟩
def A143q : Notes := ⟨[], [(9, L143_0q)], false⟩
theorem B143q : EnvB E143q := env_n (l := [R77q, R79q, R80q, R78q, R81q, R142q]) mixed_orders ⟨F77q, F79q, F80q, F78q, F81q, F142q, trivial⟩
theorem lk143_0q : LoopOK prog 1000 0 66 (loopAt (bodyOf f49) 0) L143_0q := lp (A := A143q) L143_0q (fun d => (j0_5 d.2.1 (j0_11 d.2.2.1 (d.2.2.2.1.1, d.2.2.2.1.2.1, d.2.2.2.1.2.2.1, d.2.2.2.2.1, d.2.2.2.2.2.1)))) c143_0q hour_Tick_L0 hour_Tick_L0b B143q loops0
def R143q : Nat × Entry := entA 49 [.agg pc19q, .agg pc22q] (.tup [(true, rc29q), (false, [.own y18q])]) (fun k d => (u0_16 (hour_Tick k) d)) (fun x => (f0_12 x ()))
theorem F143q : FnOK prog R143q := fA (rs := .tup [(true, rc29q), (false, [.own y18q])]) f49 A143q (fun d => (g0_12 d)) B143q (loops1 lk143_0q)
def R144q : Nat × Entry := entX 86 [.ptr true xc38q, .agg [.int .i64, .int .i64, .int .i64, .int .i64, .int .i64, .int .i64]] (.c (.int .i64)) [rc28q] (fun k d => core_desk_pays_v2 k (g0_17 d) (g18_6 d)) (fun x => (x.1, (f0_18 x.2 ())))
theorem F144q : FnOK prog R144q := fX (rs := .c (.int .i64)) (os := [rc28q]) f86 ⟨[], [], true⟩ 1 (fun d => (d.1, (g1_18 d))) (env_n (l := [R16q, R20q, R27q, R37q]) mixed_orders ⟨F16q, F20q, F27q, F37q, trivial⟩) loops0
def R145q : Nat × Entry := entX 87 [.ptr true xc38q, .agg pc24q] (.c (.int .i64)) [rc28q] (fun k d => core_desk_waits_v2 k (g0_17 d) (g18_7 d)) (fun x => (x.1, (f0_18 x.2 ())))
theorem F145q : FnOK prog R145q := fX (rs := .c (.int .i64)) (os := [rc28q]) f87 ⟨[], [], true⟩ 1 (fun d => (d.1, (g1_18 d))) (env_n (l := [R39q, R41q, R15q, R16q, R19q, R43q, R45q, R46q]) mixed_orders ⟨F39q, F41q, F15q, F16q, F19q, F43q, F45q, F46q, trivial⟩) loops0
def R146q : Nat × Entry := entX 88 [.ptr true xc38q, .agg pc24q] (.c (.int .i64)) [rc28q] (fun k d => core_desk_limits_v2 k (g0_17 d) (g18_7 d)) (fun x => (x.1, (f0_18 x.2 ())))
theorem F146q : FnOK prog R146q := fX (rs := .c (.int .i64)) (os := [rc28q]) f88 ⟨[], [], true⟩ 1 (fun d => (d.1, (g1_18 d))) (env_n (l := [R51q, R52q, R16q]) mixed_orders ⟨F51q, F52q, F16q, trivial⟩) loops0
def R147q : Nat × Entry := entX 89 [.ptr true xc38q, .c (.p (.int .i64)), .c (.p (.int .i64))] (.c (.int .i64)) [rc28q] (fun k d => core_desk_holds_v2 k (g0_17 d) d.2.2.2.2.2.2.2.2.2.2.2.2.2.2.2.2.2.2.1 d.2.2.2.2.2.2.2.2.2.2.2.2.2.2.2.2.2.2.2.1) (fun x => (x.1, (f0_18 x.2 ())))
theorem F147q : FnOK prog R147q := fX (rs := .c (.int .i64)) (os := [rc28q]) f89 ⟨[], [], true⟩ 1 (fun d => (d.1, (g1_18 d))) (env_n (l := [R54q, R16q, R55q, R56q, R65q, R51q]) mixed_orders ⟨F54q, F16q, F55q, F56q, F65q, F51q, trivial⟩) loops0
def R148q : Nat × Entry := entX 90 [.ptr true xc38q, .c (.p (.int .i64)), .c (.p (.int .i64)), .c (.p (.int .i64))] (.c (.int .i64)) [rc28q] (fun k d => core_desk_moves_v2 k (g0_17 d) d.2.2.2.2.2.2.2.2.2.2.2.2.2.2.2.2.2.2.1 d.2.2.2.2.2.2.2.2.2.2.2.2.2.2.2.2.2.2.2.1 d.2.2.2.2.2.2.2.2.2.2.2.2.2.2.2.2.2.2.2.2.1) (fun x => (x.1, (f0_18 x.2 ())))
theorem F148q : FnOK prog R148q := fX (rs := .c (.int .i64)) (os := [rc28q]) f90 ⟨[], [], true⟩ 1 (fun d => (d.1, (g1_18 d))) (env_n (l := [R16q, R70q, R72q, R73q, R51q]) mixed_orders ⟨F16q, F70q, F72q, F73q, F51q, trivial⟩) loops0
def I149_0q : Spec := ⟨[(0, .c (.lit (.ptr 1001000 0))), (7, .c (.lit (.osl 1001001 none))), (8, .c (.lit (.ptr 1001002 0))), (40, .c (.dat true (.sl (.int .i64)))), (41, .c (.int .i64)), (42, .c (.int .i64))], [.box true cs5q, .arr true (.int .i64), .box true cs13q, .arr true y7q, .mat, .arr true (.int .i64), .mat], []⟩
def X0_149_0q : Spec := ⟨[(0, .c (.lit (.ptr 1001000 0))), (7, .c (.lit (.osl 1001001 none))), (8, .c (.lit (.ptr 1001002 0)))], [.box true cs5q, .arr true (.int .i64), .box true cs13q, .arr true y7q, .mat, .arr true (.int .i64), .mat], []⟩
def X1_149_0q : Spec := ⟨[(0, .c (.lit (.ptr 1001000 0))), (6, .c (.int .i64))], [.box true cs5q], []⟩
def c149_0q (f : core_desk_price_v2_L0T) (d : I149_0q.den) : Option core_desk_price_v2_L0X := f d.1.2.2.2.1.1 d.1.2.2.2.2.1.1 d.1.2.2.2.2.2.1.1 (g0_17 d.2.1) d.2.2.1 d.2.2.2.2.1 d.2.2.2.2.2.1 d.2.2.2.2.2.2.1 d.2.2.2.2.2.2.2.1
def L149_0q : LoopSum := ⟨I149_0q, [(.exit 0, X0_149_0q), (.ret, X1_149_0q)], core_desk_price_v2_L0X, fun k d => c149_0q (core_desk_price_v2_L0 k k) d, fun b x _ K => match x with | .inl x => K (.exit 0) (stOf b X0_149_0q (((), (), (), ()), ((f0_17 x.1 ()), x.2.1, (), x.2.2.1, x.2.2.2.1, x.2.2.2.2.1, x.2.2.2.2.2, ()))) | .inr x => K .ret (stOf b X1_149_0q (((), (x.1, ()), ()), ((f0_17 x.2 ()), ())))⟩
noncomputable def E149q : Env := ⟨prog, fun _ => false, sumsOf [R54q, R16q, R56q, R51q, R65q]⟩
def A149q : Notes := ⟨[], [(6, L149_0q)], true⟩
theorem B149q : EnvB E149q := env_n (l := [R54q, R16q, R56q, R51q, R65q]) mixed_orders ⟨F54q, F16q, F56q, F51q, F65q, trivial⟩
theorem lk149_0q : LoopOK prog 1000 1 81 (loopAt (bodyOf f91) 0) L149_0q := lp (A := A149q) L149_0q (fun d => match d with | .inl d => .inl ((g0_17 d.2.1), d.2.2.1, d.2.2.2.2.1, d.2.2.2.2.2.1, d.2.2.2.2.2.2.1, d.2.2.2.2.2.2.2.1) | .inr d => .inr (d.1.2.1.1, (g0_17 d.2.1))) c149_0q core_desk_price_v2_L0 core_desk_price_v2_L0b B149q loops0
def R149q : Nat × Entry := entX 91 [.ptr true xc38q, .c (.p (.int .i64)), .c (.p (.int .i64))] (.c (.int .i64)) [rc28q] (fun k d => core_desk_price_v2 k (g0_17 d) d.2.2.2.2.2.2.2.2.2.2.2.2.2.2.2.2.2.2.1 d.2.2.2.2.2.2.2.2.2.2.2.2.2.2.2.2.2.2.2.1) (fun x => (x.1, (f0_18 x.2 ())))
theorem F149q : FnOK prog R149q := fX (rs := .c (.int .i64)) (os := [rc28q]) f91 A149q 1 (fun d => (d.1, (g1_18 d))) B149q (loops1 lk149_0q)
def R150q : Nat × Entry := entX 48 [.ptr true xc38q, .agg pc24q] (.c (.int .i64)) [rc28q] (fun k d => core_desk_does_v2 k (g0_17 d) (g18_7 d)) (fun x => (x.1, (f0_18 x.2 ())))
theorem F150q : FnOK prog R150q := fX (rs := .c (.int .i64)) (os := [rc28q]) f48 ⟨[], [], true⟩ 1 (fun d => (d.1, (g1_18 d))) (env_n (l := [R144q, R145q, R146q, R147q, R148q, R149q]) mixed_orders ⟨F144q, F145q, F146q, F147q, F148q, F149q, trivial⟩) loops0
def R151q : Nat × Entry := entA 20 [.agg [.int .i64, .dat true y0q, .int .i64, .int .i64, .int .i64], .agg pc22q, .agg pc25q] (.tup [(true, rc29q), (false, [.own y18q]), (false, rc27q)]) (fun k d => core_Do k (g0_5 d) (g5_11 d) (g16_8 d)) (fun x => (f0_11 x.1 (x.2.1, x.2.2, ())))
theorem F151q : FnOK prog R151q := fA (rs := .tup [(true, rc29q), (false, [.own y18q]), (false, rc27q)]) f20 ⟨[], [], true⟩ (fun d => ((g0_11 d), d.2.2.2.2.2.2.2.2.2.2.2.1, d.2.2.2.2.2.2.2.2.2.2.2.2.1)) (env_n (l := [R9q, R14q, R15q, R76q, R143q, R142q, R30q, R42q, R150q]) mixed_orders ⟨F9q, F14q, F15q, F76q, F143q, F142q, F30q, F42q, F150q, trivial⟩) loops0
def R152q : Nat × Entry := entA 16 [.agg [.int .i64, .dat true y0q, .int .i64, .int .i64, .int .i64], .agg pc22q, .agg pc25q] (.tup [(true, rc29q), (false, [.own y18q]), (false, rc27q)]) (fun k d => girolaw23_step k (g0_5 d) (g5_11 d) (g16_8 d)) (fun x => (f0_11 x.1 (x.2.1, x.2.2, ())))
theorem F152q : FnOK prog R152q := fA (rs := .tup [(true, rc29q), (false, [.own y18q]), (false, rc27q)]) f16 ⟨[], [], true⟩ (fun d => ((g0_11 d), d.2.2.2.2.2.2.2.2.2.2.2.1, d.2.2.2.2.2.2.2.2.2.2.2.2.1)) (env_n (l := [R151q]) mixed_orders ⟨F151q, trivial⟩) loops0
def I155_0q : Spec := ⟨[(1, .c (.dat false (.int .i64))), (4, .c (.lit (.ptr 1001000 0))), (5, .c (.lit (.ptr 1001001 0))), (6, .c (.int .i64))], [.box true cs7q, .box true cs7q], []⟩
def X0_155_0q : Spec := ⟨[(4, .c (.lit (.ptr 1001000 0))), (5, .c (.lit (.ptr 1001001 0)))], [.box true cs7q, .box true cs7q], []⟩
def c155_0q (f : giroref3_Of_L0T) (d : I155_0q.den) : Option giroref3_Of_L0X := (u0_7 (u0_7 (f d.1.1.1 d.1.2.2.2.1.1) d.2.1) d.2.2.1)
def L155_0q : LoopSum := ⟨I155_0q, [(.exit 0, X0_155_0q)], giroref3_Of_L0X, fun k d => c155_0q (giroref3_Of_L0 k k) d, fun b x _ K => K (.exit 0) (stOf b X0_155_0q (((), (), ()), ((j0_7 x ()), (f7_7 x ()), ())))⟩
noncomputable def E155q : Env := ⟨prog, fun _ => false, sumsOf []⟩
def A155q : Notes := ⟨[], [(3, L155_0q)], false⟩
theorem B155q : EnvB E155q := env_n (l := []) mixed_orders trivial
theorem lk155_0q : LoopOK prog 1000 0 27 (loopAt (bodyOf f36) 0) L155_0q := lp (A := A155q) L155_0q (fun d => (j0_7 d.2.1 (g0_7 d.2.2.1))) c155_0q giroref3_Of_L0 giroref3_Of_L0b B155q loops0
def R155q : Nat × Entry := entA 36 [.c (.int .i64), .c (.dat false (.int .i64))] (.agg rc32q) (fun k d => giroref3_Of k d.1 d.2.1) (fun x => (f0_7 x ()))
theorem F155q : FnOK prog R155q := fA (rs := .agg rc32q) f36 A155q (fun d => (g0_7 d)) B155q (loops1 lk155_0q)
def R156q : Nat × Entry := entA 22 [.c (.int .i64), .c (.int .i64), .c (.dat false (.int .i64))] (.agg rc33q) (fun k d => girolaw23_cmd k d.1 d.2.1 d.2.2.1) (fun x => (f0_8 x ()))
theorem F156q : FnOK prog R156q := fA (rs := .agg rc33q) f22 ⟨[], [], true⟩ (fun d => (g0_8 d)) (env_n (l := [R155q]) mixed_orders ⟨F155q, trivial⟩) loops0
def R157q : Nat × Entry := entA 18 [] (.c (.bool)) (fun k d => girolaw23_known k) (fun x => (x, ()))
theorem F157q : FnOK prog R157q := fA (rs := .c (.bool)) f18 ⟨[], [], true⟩ (fun d => d.1) (env_b (l := [R0q, R4q, R156q, R152q, R155q]) (eqT := fun t => [42].any (Nat.beq t)) (eqOK_flat (fun t h => eqT_mem (p := fun t => prog.keyTypeAt 8 t && !prog.eqGuardType prog.depth t) (l := [42]) (List.forall_mem_cons.2 ⟨by kernel_rfl, List.forall_mem_nil _⟩) t h)) mixed_orders ⟨F0q, F4q, F156q, F152q, F155q, trivial⟩) loops0
noncomputable def E_girolaw23_CorePool : Env := ⟨prog, fun _ => false, sumsOf [R0q, R4q, R156q, R152q, R151q, R157q]⟩
def A_girolaw23_CorePool : Notes := ⟨[], [], true⟩
theorem B_girolaw23_CorePool : EnvB E_girolaw23_CorePool := env_n (l := [R0q, R4q, R156q, R152q, R151q, R157q]) mixed_orders ⟨F0q, F4q, F156q, F152q, F151q, F157q, trivial⟩
def as_girolaw23_CorePool : List AS := [.c (.int .i64), .c (.int .i64), .c (.int .i64)]
theorem girolaw23_CorePool_ev : EvOK E_girolaw23_CorePool A_girolaw23_CorePool 0 f7 as_girolaw23_CorePool (.c (.bool)) (fun d => d.1) (fun k d => girolaw23_CorePool k d.1 d.2.1 d.2.2.1) := by intro k d; kernel_rfl
end Go.Ab.Gi
