/- part 10 -/
import Derived.Test.YtjjglblggikmeaaGreatGiXS
import Derived.Test.YtjjglblggikmeaaGreatGiAbE
import Derived.Test.YtjjglblggikmeaaGreatProg
set_option linter.unusedVariables false
set_option maxRecDepth 100000
set_option maxHeartbeats 4000000
namespace Go.Ab.Gi
open Go.RowKit Go.Lib Go.Proofs Go.Proofs.Tryz
theorem mixed_orders : prog.follows .mixedOrders = true := by kernel_rfl
def R1q : Nat × Entry := entN 16 [.c (.p (.int .i64))] (.c (.link 0)) [rc49q] 1 (.c (.nilp)) [] 0 (fun k d => tape_New k d.1) (fun x => ((), (f0_10 x ()))) (fun x => ((), ()))
theorem F1q : FnOK prog R1q := fN (rs := .c (.link 0)) (os := [rc49q]) (ns := 1) (rs2 := .c (.nilp)) (os2 := []) (ns2 := 0) f16 ⟨[], [], [], true⟩ 0 (fun d => (g1_10 d)) (fun d => ()) (env_n (l := []) mixed_orders trivial) loops0
def R2q : Nat × Entry := entA 117 [.c (.int .i64), .c (.int .i64), .c (.int .i64)] (.c (.bool)) (fun k d => day_in k d.1 d.2.1 d.2.2.1) (fun x => (x, ()))
theorem F2q : FnOK prog R2q := fA (rs := .c (.bool)) f117 ⟨[], [], [], true⟩ (fun d => d.1) (env_n (l := []) mixed_orders trivial) loops0
def R3q : Nat × Entry := entA 116 [.agg [.int .i64, .int .i64]] (.c (.bool)) (fun k d => day_Is_fn1 k (d.1, d.2.1)) (fun x => (x, ()))
theorem F3q : FnOK prog R3q := fA (rs := .c (.bool)) f116 ⟨[], [], [], true⟩ (fun d => d.1) (env_n (l := [R2q]) mixed_orders ⟨F2q, trivial⟩) loops0
def I4_0q : Spec := ⟨[(0, .c (.dat false y1q)), (1, .c (.lit (.fn 116 []))), (7, .c (.int .i64)), (8, .c (.int .i64))], [], []⟩
def X0_4_0q : Spec := ⟨[], [], []⟩
def X1_4_0q : Spec := ⟨[(4, .c (.int .i64))], [], []⟩
def c4_0q (f : slices_IndexFunc_Asset__day_Is_fn1_L0T) (d : I4_0q.den) : Option (Unit ⊕ Int) := f d.1.1.1 d.1.2.2.1.1 d.1.2.2.2.1.1
def L4_0q : LoopSum := ⟨[I4_0q], [(.exit 0, X0_4_0q), (.ret, X1_4_0q)], (Unit ⊕ Int), fun k d => c4_0q (slices_IndexFunc_Asset__day_Is_fn1_L0 k k) d, fun b x _ K => match x with | .inl x => K (.exit 0) (stOf b X0_4_0q ((), ())) | .inr x => K .ret (stOf b X1_4_0q (((x, ()), ()), ()))⟩
noncomputable def E4q : Env := ⟨prog, fun _ => false, sumsOf [R3q]⟩
def A4q : Notes := ⟨[], [(2, L4_0q)], [], true⟩
theorem B4q : EnvB E4q := env_n (l := [R3q]) mixed_orders ⟨F3q, trivial⟩
theorem lk4_0q : LoopOK prog 1000 0 19 (loopAt (bodyOf f175) 0) L4_0q := lp (A := A4q) L4_0q (fun d => match d with | .inl d => .inl () | .inr d => .inr d.1.1.1) c4_0q slices_IndexFunc_Asset__day_Is_fn1_L0 slices_IndexFunc_Asset__day_Is_fn1_L0b B4q loops0
def R4q : Nat × Entry := entA 175 [.c (.dat false y1q), .c (.fn 116)] (.c (.int .i64)) (fun k d => slices_IndexFunc_Asset__day_Is_fn1 k d.1) (fun x => (x, ()))
theorem F4q : FnOK prog R4q := fA (rs := .c (.int .i64)) f175 A4q (fun d => d.1) B4q (loops1 lk4_0q)
def R5q : Nat × Entry := entA 118 [.c (.dat false y1q), .c (.fn 116)] (.c (.bool)) (fun k d => slices_ContainsFunc_Asset__day_Is_fn1 k d.1) (fun x => (x, ()))
theorem F5q : FnOK prog R5q := fA (rs := .c (.bool)) f118 ⟨[], [], [], true⟩ (fun d => d.1) (env_n (l := [R4q]) mixed_orders ⟨F4q, trivial⟩) loops0
def R6q : Nat × Entry := entA 63 [.agg pc31q] (.c (.bool)) (fun k d => day_Is k (g0_5 d)) (fun x => (x, ()))
theorem F6q : FnOK prog R6q := fA (rs := .c (.bool)) f63 ⟨[], [], [], true⟩ (fun d => d.1) (env_n (l := [R2q, R5q]) mixed_orders ⟨F2q, F5q, trivial⟩) loops0
def R7q : Nat × Entry := entA 92 [.c (.int .i64)] (.c (.bool)) (fun k d => tape_isSide k d.1) (fun x => (x, ()))
theorem F7q : FnOK prog R7q := fA (rs := .c (.bool)) f92 ⟨[], [], [], true⟩ (fun d => d.1) (env_n (l := []) mixed_orders trivial) loops0
def R8q : Nat × Entry := entC 247 false (.int .u8) (.own (.int .u8)) bytes_Clone
theorem F8q : FnOK prog R8q := fC f247 ⟨[], [], [], true⟩ (env_n (l := []) mixed_orders trivial) loops0
def R9q : Nat × Entry := entA 177 [.ptr pc29q, .c (.int .i64)] (.c (.own (.int .u8))) (fun k d => tape_Deck_Read k (g0_10 d) d.2.2.2.2.2.2.2.2.2.2.1) (fun x => (x, ()))
theorem F9q : FnOK prog R9q := fA (rs := .c (.own (.int .u8))) f177 ⟨[], [], [], true⟩ (fun d => d.1) (env_n (l := [R7q, R8q]) mixed_orders ⟨F7q, F8q, trivial⟩) loops0
def I10_0q : Spec := ⟨[(0, .c (.dat false (.int .u8))), (2, .c (.lit (.osl 1001000 none)))], [.arr true (.sl (.int .u8))], [(2, none, (.sl (.int .u8)), false)]⟩
def X0_10_0q : Spec := ⟨[(0, .c (.dat false (.int .u8))), (2, .c (.lit (.osl 1001000 none)))], [.arr true (.sl (.int .u8))], []⟩
def c10_0q (f : rec_Scan_L0T) (d : I10_0q.den) : Option rec_Scan_L0X := f d.1.1.1 d.2.1
def L10_0q : LoopSum := ⟨[I10_0q], [(.exit 0, X0_10_0q)], rec_Scan_L0X, fun k d => c10_0q (rec_Scan_L0 k k) d, fun b x _ K => K (.exit 0) (stOf b X0_10_0q (((x.1, ()), (), ()), (x.2, ())))⟩
noncomputable def E10q : Env := ⟨prog, fun _ => false, sumsOf []⟩
def A10q : Notes := ⟨[], [(1, L10_0q)], [], true⟩
theorem B10q : EnvB E10q := env_n (l := []) mixed_orders trivial
theorem lk10_0q : LoopOK prog 1000 0 43 (loopAt (bodyOf f176) 0) L10_0q := lp (A := A10q) L10_0q (fun d => (d.1.1.1, d.2.1)) c10_0q rec_Scan_L0 rec_Scan_L0b B10q loops0
def R10q : Nat × Entry := entA 176 [.c (.dat false (.int .u8))] (.tup [(false, [.own (.sl (.int .u8))]), (false, rc41q)]) (fun k d => rec_Scan k d.1) (fun x => (x.1, x.2, ()))
theorem F10q : FnOK prog R10q := fA (rs := .tup [(false, [.own (.sl (.int .u8))]), (false, rc41q)]) f176 A10q (fun d => (d.1, d.2.1)) B10q (loops1 lk10_0q)
def I11_0q : Spec := ⟨[(0, .c (.dat false (.int .u8))), (4, .c (.lit (.osl 1001000 none))), (5, .c (.int .u64)), (16, .c (.dat false (.int .u8))), (17, .c (.int .i64)), (18, .c (.int .i64))], [.arr true (.int .i64)], []⟩
def X0_11_0q : Spec := ⟨[(0, .c (.dat false (.int .u8))), (4, .c (.lit (.osl 1001000 none))), (5, .c (.int .u64))], [.arr true (.int .i64)], []⟩
def c11_0q (f : word_Get_L1T) (d : I11_0q.den) : Option word_Get_L1X := f d.1.1.1 d.1.2.2.1.1 d.1.2.2.2.1.1 d.1.2.2.2.2.1.1 d.1.2.2.2.2.2.1.1 d.2.1
def L11_0q : LoopSum := ⟨[I11_0q], [(.exit 2, X0_11_0q)], word_Get_L1X, fun k d => c11_0q (word_Get_L1 k k) d, fun b x _ K => K (.exit 2) (stOf b X0_11_0q (((x.1, ()), (), (x.2.1, ()), ()), (x.2.2, ())))⟩
def I11_1q : Spec := ⟨[(0, .c (.dat false (.int .u8))), (4, .c (.lit (.osl 1001000 none)))], [.arr true (.int .i64)], [(4, none, (.int .i64), false)]⟩
def X0_11_1q : Spec := ⟨[(4, .c (.lit (.osl 1001000 none)))], [.arr true (.int .i64)], []⟩
def c11_1q (f : List Int → List Int → Option (List Int)) (d : I11_1q.den) : Option (List Int) := f d.1.1.1 d.2.1
def L11_1q : LoopSum := ⟨[I11_1q], [(.exit 0, X0_11_1q)], (List Int), fun k d => c11_1q (word_Get_L0 k k) d, fun b x _ K => K (.exit 0) (stOf b X0_11_1q (((), ()), (x, ())))⟩
noncomputable def E11q : Env := ⟨prog, fun _ => false, sumsOf []⟩
def A11q : Notes := ⟨[], [(7, L11_0q), (4, L11_1q)], [], true⟩
theorem B11q : EnvB E11q := env_n (l := []) mixed_orders trivial
theorem lk11_0q : LoopOK prog 1000 0 36 (loopAt (loopAt (bodyOf f132) 0) 0) L11_0q := lp (A := A11q) L11_0q (fun d => (d.1.1.1, d.1.2.2.1.1, d.2.1)) c11_0q word_Get_L1 word_Get_L1b B11q loops0
theorem lk11_1q : LoopOK prog 1000 0 36 (loopAt (bodyOf f132) 0) L11_1q := lp (A := A11q) L11_1q (fun d => d.2.1) c11_1q word_Get_L0 word_Get_L0b B11q (loops1 lk11_0q)
def R11q : Nat × Entry := entA 132 [.c (.dat false (.int .u8))] (.tup [(false, rc57q), (false, rc41q)]) (fun k d => word_Get k d.1) (fun x => (x.1, x.2, ()))
theorem F11q : FnOK prog R11q := fA (rs := .tup [(false, rc57q), (false, rc41q)]) f132 A11q (fun d => (d.1, d.2.1)) B11q (loops1 lk11_1q)
def R12q : Nat × Entry := entA 119 [.ptr pc29q, .c (.int .i64)] (.tup [(false, rc41q), (false, rc38q), (false, rc39q)]) (fun k d => log_held k (g0_10 d) d.2.2.2.2.2.2.2.2.2.2.1) (fun x => (x.1, x.2.1, x.2.2, ()))
theorem F12q : FnOK prog R12q := fA (rs := .tup [(false, rc41q), (false, rc38q), (false, rc39q)]) f119 ⟨[], [], [], true⟩ (fun d => (d.1, d.2.1, d.2.2.1)) (env_n (l := [R9q, R10q, R11q]) mixed_orders ⟨F9q, F10q, F11q, trivial⟩) loops0
def R13q : Nat × Entry := entA 64 [.ptr pc29q] (.tup [(false, rc41q), (false, rc41q), (false, rc38q), (false, rc39q), (false, [.bool])]) (fun k d => log_Look k (g0_10 d)) (fun x => (f0_5 x ()))
theorem F13q : FnOK prog R13q := fA (rs := .tup [(false, rc41q), (false, rc41q), (false, rc38q), (false, rc39q), (false, [.bool])]) f64 ⟨[], [], [(2, 3)], true⟩ (fun d => (d.1, d.2.1, d.2.2.1, d.2.2.2.1, d.2.2.2.2.1)) (env_n (l := [R12q]) mixed_orders ⟨F12q, trivial⟩) (loopsOK_or (n := 1) (by kernel_rfl) fun i hi => match i, hi with | 0, _ => .inr ⟨by kernel_rfl, loops0⟩ | i + 1, hi => absurd hi (by omega))
def R14q : Nat × Entry := entA 173 [.c (.int .i64)] (.c (.bool)) (fun k d => lim_isSize k d.1) (fun x => (x, ()))
theorem F14q : FnOK prog R14q := fA (rs := .c (.bool)) f173 ⟨[], [], [], false⟩ (fun d => d.1) (env_n (l := []) mixed_orders trivial) loops0
def I15_0q : Spec := ⟨[(1, .c (.int .i64)), (5, .c (.lit (.osl 1001000 none))), (13, .c (.int .i64)), (14, .c (.int .i64))], [.arr true (.int .i64)], []⟩
def X0_15_0q : Spec := ⟨[(5, .c (.lit (.osl 1001000 none)))], [.arr true (.int .i64)], []⟩
def c15_0q (f : lim_Row_L0T) (d : I15_0q.den) : Option (List Int) := f d.1.1.1 d.1.2.2.1.1 d.1.2.2.2.1.1 d.2.1
def L15_0q : LoopSum := ⟨[I15_0q], [(.exit 0, X0_15_0q)], (List Int), fun k d => c15_0q (lim_Row_L0 k k) d, fun b x _ K => K (.exit 0) (stOf b X0_15_0q (((), ()), (x, ())))⟩
noncomputable def E15q : Env := ⟨prog, fun _ => false, sumsOf [R14q]⟩
def A15q : Notes := ⟨[], [(5, L15_0q)], [], false⟩
theorem B15q : EnvB E15q := env_n (l := [R14q]) mixed_orders ⟨F14q, trivial⟩
theorem lk15_0q : LoopOK prog 1000 0 23 (loopAt (bodyOf f114) 0) L15_0q := lp (A := A15q) L15_0q (fun d => d.2.1) c15_0q lim_Row_L0 lim_Row_L0b B15q loops0
def R15q : Nat × Entry := entA 114 [.c (.int .i64), .c (.int .i64)] (.c (.own (.int .i64))) (fun k d => lim_Row k d.1 d.2.1) (fun x => (x, ()))
theorem F15q : FnOK prog R15q := fA (rs := .c (.own (.int .i64))) f114 A15q (fun d => d.1) B15q (loops1 lk15_0q)
def I16_0q : Spec := ⟨[(0, .c (.int .i64)), (1, .c (.int .i64)), (5, .c (.lit (.osl 1001000 none))), (13, .c (.int .i64)), (14, .c (.int .i64))], [.mat], []⟩
def X0_16_0q : Spec := ⟨[(5, .c (.lit (.osl 1001000 none)))], [.mat], []⟩
def c16_0q (f : lim_Square_L0T) (d : I16_0q.den) : Option (List (List Int)) := f d.1.1.1 d.1.2.1.1 d.1.2.2.2.1.1 d.1.2.2.2.2.1.1 d.2.1
def L16_0q : LoopSum := ⟨[I16_0q], [(.exit 0, X0_16_0q)], (List (List Int)), fun k d => c16_0q (lim_Square_L0 k k) d, fun b x _ K => K (.exit 0) (stOf b X0_16_0q (((), ()), (x, ())))⟩
noncomputable def E16q : Env := ⟨prog, fun _ => false, sumsOf [R14q, R15q]⟩
def A16q : Notes := ⟨[11], [(5, L16_0q)], [], false⟩
theorem B16q : EnvB E16q := env_n (l := [R14q, R15q]) mixed_orders ⟨F14q, F15q, trivial⟩
theorem lk16_0q : LoopOK prog 1000 0 25 (loopAt (bodyOf f113) 0) L16_0q := lp (A := A16q) L16_0q (fun d => d.2.1) c16_0q lim_Square_L0 lim_Square_L0b B16q loops0
def R16q : Nat × Entry := entA 113 [.c (.int .i64), .c (.int .i64)] (.c (.mat)) (fun k d => lim_Square k d.1 d.2.1) (fun x => (x, ()))
theorem F16q : FnOK prog R16q := fA (rs := .c (.mat)) f113 A16q (fun d => d.1) B16q (loops1 lk16_0q)
def I17_0q : Spec := ⟨[(1, .c (.lit (.ptr 1001000 0))), (2, .c (.lit (.ptr 1001001 0))), (3, .c (.int .i64)), (4, .c (.lit (.ptr 1001002 0))), (20, .c (.dat false y1q)), (21, .c (.int .i64)), (22, .c (.int .i64))], [.box true cs5q, .box true cs20q, .box true cs18q, .arr true y14q, .mat, .arr true (.int .i64), .mat, .arr true (.int .i64)], [(4, some 5, (.int .i64), false)]⟩
def X0_17_0q : Spec := ⟨[(1, .c (.lit (.ptr 1001000 0))), (2, .c (.lit (.ptr 1001001 0))), (3, .c (.int .i64)), (4, .c (.lit (.ptr 1001002 0)))], [.box true cs5q, .box true cs20q, .box true cs18q, .arr true y14q, .mat, .arr true (.int .i64), .mat, .arr true (.int .i64)], []⟩
def c17_0q (f : core_New_L0T) (d : I17_0q.den) : Option core_New_L0X := f d.1.2.2.1.1 d.1.2.2.2.2.1.1 d.1.2.2.2.2.2.1.1 d.1.2.2.2.2.2.2.1.1 (g0_5 d.2.1) (d.2.2.1.1, d.2.2.1.2.1, d.2.2.1.2.2.1) (d.2.2.2.1.1, d.2.2.2.1.2.1, d.2.2.2.1.2.2.1) d.2.2.2.2.1 d.2.2.2.2.2.1 d.2.2.2.2.2.2.1 d.2.2.2.2.2.2.2.1 d.2.2.2.2.2.2.2.2.1
def L17_0q : LoopSum := ⟨[I17_0q], [(.exit 0, X0_17_0q)], core_New_L0X, fun k d => c17_0q (core_New_L0 k k) d, fun b x _ K => K (.exit 0) (stOf b X0_17_0q (((), (), (x.1, ()), (), ()), ((f0_5 x.2.1 ()), (x.2.2.1.1, x.2.2.1.2.1, x.2.2.1.2.2, ()), (x.2.2.2.1.1, x.2.2.2.1.2.1, x.2.2.2.1.2.2, ()), x.2.2.2.2.1, x.2.2.2.2.2.1, x.2.2.2.2.2.2.1, x.2.2.2.2.2.2.2.1, x.2.2.2.2.2.2.2.2, ())))⟩
def I17_1q : Spec := ⟨[(1, .c (.lit (.ptr 1001000 0))), (2, .c (.lit (.ptr 1001001 0))), (4, .c (.lit (.ptr 1001002 0))), (34, .c (.int .i64)), (35, .c (.int .i64))], [.box true cs5q, .box true cs20q, .box true cs17q, .arr true y14q, .mat, .arr true (.int .i64), .mat, .arr true (.int .i64), .mat], [(4, some 6, (.sl (.int .i64)), true)]⟩
def X0_17_1q : Spec := ⟨[(2, .c (.lit (.ptr 1001000 0))), (4, .c (.lit (.ptr 1001001 0)))], [.box true cs20q, .box true cs14q, .arr true y14q, .mat, .arr true (.int .i64), .mat, .arr true (.int .i64), .mat], []⟩
def c17_1q (f : core_New_L1T) (d : I17_1q.den) : Option core_New_L1X := f d.1.2.2.2.1.1 d.1.2.2.2.2.1.1 (g0_5 d.2.1) (d.2.2.1.1, d.2.2.1.2.1, d.2.2.1.2.2.1) (d.2.2.2.1.1, d.2.2.2.1.2.1, d.2.2.2.1.2.2.1) d.2.2.2.2.1 d.2.2.2.2.2.1 d.2.2.2.2.2.2.1 d.2.2.2.2.2.2.2.1 d.2.2.2.2.2.2.2.2.1 d.2.2.2.2.2.2.2.2.2.1
def L17_1q : LoopSum := ⟨[I17_1q], [(.exit 2, X0_17_1q)], core_New_L1X, fun k d => c17_1q (core_New_L1 k k) d, fun b x _ K => K (.exit 2) (stOf b X0_17_1q (((), (), ()), ((x.1.1, x.1.2.1, x.1.2.2, ()), (x.2.1.1, x.2.1.2.1, x.2.1.2.2, ()), x.2.2.1, x.2.2.2.1, x.2.2.2.2.1, x.2.2.2.2.2.1, x.2.2.2.2.2.2.1, x.2.2.2.2.2.2.2, ())))⟩
noncomputable def E17q : Env := ⟨prog, fun _ => false, sumsOf [R16q, R15q]⟩
def A17q : Notes := ⟨[43, 44], [(4, L17_0q), (9, L17_1q)], [], true⟩
theorem B17q : EnvB E17q := env_n (l := [R16q, R15q]) mixed_orders ⟨F16q, F15q, trivial⟩
theorem lk17_0q : LoopOK prog 1000 0 48 (loopAt (bodyOf f57) 0) L17_0q := lp (A := A17q) L17_0q (fun d => (d.1.2.2.1.1, (g0_5 d.2.1), (d.2.2.1.1, d.2.2.1.2.1, d.2.2.1.2.2.1), (d.2.2.2.1.1, d.2.2.2.1.2.1, d.2.2.2.1.2.2.1), d.2.2.2.2.1, d.2.2.2.2.2.1, d.2.2.2.2.2.2.1, d.2.2.2.2.2.2.2.1, d.2.2.2.2.2.2.2.2.1)) c17_0q core_New_L0 core_New_L0b B17q loops0
theorem lk17_1q : LoopOK prog 1000 0 48 (loopAt (bodyOf f57) 1) L17_1q := lp (A := A17q) L17_1q (fun d => ((d.2.1.1, d.2.1.2.1, d.2.1.2.2.1), (d.2.2.1.1, d.2.2.1.2.1, d.2.2.1.2.2.1), d.2.2.2.1, d.2.2.2.2.1, d.2.2.2.2.2.1, d.2.2.2.2.2.2.1, d.2.2.2.2.2.2.2.1, d.2.2.2.2.2.2.2.2.1)) c17_1q core_New_L1 core_New_L1b B17q loops0
def R17q : Nat × Entry := entA 57 [.agg pc31q] (.agg rc50q) (fun k d => core_New k (g0_5 d)) (fun x => (f0_11 x ()))
theorem F17q : FnOK prog R17q := fA (rs := .agg rc50q) f57 A17q (fun d => (g0_11 d)) B17q (loopsOK_of (n := 2) (by kernel_rfl) fun i hi => match i, hi with | 0, _ => ⟨L17_0q, by kernel_rfl, lk17_0q⟩ | 1, _ => ⟨L17_1q, by kernel_rfl, lk17_1q⟩ | i + 2, hi => absurd hi (by omega))
def R18q : Nat × Entry := entA 121 [.c (.bool)] (.c (.int .i64)) (fun k d => snap_bit k d.1) (fun x => (x, ()))
theorem F18q : FnOK prog R18q := fA (rs := .c (.int .i64)) f121 ⟨[], [], [], true⟩ (fun d => d.1) (env_n (l := []) mixed_orders trivial) loops0
def I19_0q : Spec := ⟨[(3, .c (.lit (.osl 1001000 none))), (5, .c (.int .i64)), (6, .c (.int .i64)), (11, .c (.dat false (.int .i64))), (12, .c (.int .i64)), (13, .c (.int .i64))], [.arr true (.int .u8)], []⟩
def X0_19_0q : Spec := ⟨[(3, .c (.lit (.osl 1001000 none))), (11, .c (.dat false (.int .i64))), (12, .c (.int .i64)), (13, .c (.int .i64))], [.arr true (.int .u8)], []⟩
def c19_0q (f : word_Put_L1T) (d : I19_0q.den) : Option word_Put_L1X := f d.1.2.1.1 d.1.2.2.1.1 d.1.2.2.2.1.1 d.1.2.2.2.2.1.1 d.1.2.2.2.2.2.1.1 d.2.1
def L19_0q : LoopSum := ⟨[I19_0q], [(.exit 2, X0_19_0q)], word_Put_L1X, fun k d => c19_0q (word_Put_L1 k k) d, fun b x _ K => K (.exit 2) (stOf b X0_19_0q (((), (x.1, ()), (x.2.1, ()), (x.2.2.1, ()), ()), (x.2.2.2, ())))⟩
def I19_1q : Spec := ⟨[(3, .c (.lit (.osl 1001000 none))), (11, .c (.dat false (.int .i64))), (12, .c (.int .i64)), (13, .c (.int .i64))], [.arr true (.int .u8)], []⟩
def X0_19_1q : Spec := ⟨[(3, .c (.lit (.osl 1001000 none)))], [.arr true (.int .u8)], []⟩
def c19_1q (f : word_Put_L0T) (d : I19_1q.den) : Option (List Int) := f d.1.2.1.1 d.1.2.2.1.1 d.1.2.2.2.1.1 d.2.1
def L19_1q : LoopSum := ⟨[I19_1q], [(.exit 0, X0_19_1q)], (List Int), fun k d => c19_1q (word_Put_L0 k k) d, fun b x _ K => K (.exit 0) (stOf b X0_19_1q (((), ()), (x, ())))⟩
noncomputable def E19q : Env := ⟨prog, fun _ => false, sumsOf []⟩
def A19q : Notes := ⟨[], [(6, L19_0q), (3, L19_1q)], [], true⟩
theorem B19q : EnvB E19q := env_n (l := []) mixed_orders trivial
theorem lk19_0q : LoopOK prog 1000 0 31 (loopAt (loopAt (bodyOf f143) 0) 0) L19_0q := lp (A := A19q) L19_0q (fun d => (d.1.2.1.1, d.1.2.2.1.1, d.1.2.2.2.1.1, d.2.1)) c19_0q word_Put_L1 word_Put_L1b B19q loops0
theorem lk19_1q : LoopOK prog 1000 0 31 (loopAt (bodyOf f143) 0) L19_1q := lp (A := A19q) L19_1q (fun d => d.2.1) c19_1q word_Put_L0 word_Put_L0b B19q (loops1 lk19_0q)
def R19q : Nat × Entry := entA 143 [.c (.dat false (.int .i64))] (.c (.own (.int .u8))) (fun k d => word_Put k d.1) (fun x => (x, ()))
theorem F19q : FnOK prog R19q := fA (rs := .c (.own (.int .u8))) f143 A19q (fun d => d.1) B19q (loops1 lk19_1q)
def R20q : Nat × Entry := entA 181 [.c (.dat false (.int .i64))] (.c (.own (.int .u8))) (fun k d => word_Row k d.1) (fun x => (x, ()))
theorem F20q : FnOK prog R20q := fA (rs := .c (.own (.int .u8))) f181 ⟨[], [], [], true⟩ (fun d => d.1) (env_n (l := [R19q]) mixed_orders ⟨F19q, trivial⟩) loops0
def I21_0q : Spec := ⟨[(3, .c (.lit (.osl 1001000 none))), (6, .c (.dat false (.sl (.int .i64)))), (7, .c (.int .i64)), (8, .c (.int .i64))], [.arr true (.int .u8)], [(3, none, (.int .u8), false)]⟩
def X0_21_0q : Spec := ⟨[(3, .c (.lit (.osl 1001000 none)))], [.arr true (.int .u8)], []⟩
def c21_0q (f : snap_rows_L0T) (d : I21_0q.den) : Option (List Int) := f d.1.2.1.1 d.1.2.2.1.1 d.1.2.2.2.1.1 d.2.1
def L21_0q : LoopSum := ⟨[I21_0q], [(.exit 0, X0_21_0q)], (List Int), fun k d => c21_0q (snap_rows_L0 k k) d, fun b x _ K => K (.exit 0) (stOf b X0_21_0q (((), ()), (x, ())))⟩
noncomputable def E21q : Env := ⟨prog, fun _ => false, sumsOf [R20q]⟩
def A21q : Notes := ⟨[], [(3, L21_0q)], [], true⟩
theorem B21q : EnvB E21q := env_n (l := [R20q]) mixed_orders ⟨F20q, trivial⟩
theorem lk21_0q : LoopOK prog 1000 0 18 (loopAt (bodyOf f122) 0) L21_0q := lp (A := A21q) L21_0q (fun d => d.2.1) c21_0q snap_rows_L0 snap_rows_L0b B21q loops0
def R21q : Nat × Entry := entA 122 [.c (.dat false (.sl (.int .i64)))] (.c (.own (.int .u8))) (fun k d => snap_rows k d.1) (fun x => (x, ()))
theorem F21q : FnOK prog R21q := fA (rs := .c (.own (.int .u8))) f122 A21q (fun d => d.1) B21q (loops1 lk21_0q)
def I22_0q : Spec := ⟨[(1, .c (.lit (.ptr 1001000 0))), (3, .c (.lit (.ptr 1001001 0))), (4, .c (.lit (.osl 1001002 none))), (39, .c (.dat true y14q)), (40, .c (.int .i64)), (41, .c (.int .i64))], [.box true cs6q, .box true cs3q, .arr true (.sl (.int .i64))], []⟩
def X0_22_0q : Spec := ⟨[(1, .c (.lit (.ptr 1001000 0))), (3, .c (.lit (.ptr 1001001 0))), (4, .c (.lit (.osl 1001002 none)))], [.box true cs6q, .box true cs3q, .arr true (.sl (.int .i64))], []⟩
def c22_0q (f : snap_Bytes_L0T) (d : I22_0q.den) : Option snap_Bytes_L0X := f d.1.2.2.2.1.1 d.1.2.2.2.2.1.1 d.1.2.2.2.2.2.1.1 (g0_11 d.2.1) (g0_4 d.2.2.1) d.2.2.2.1
def L22_0q : LoopSum := ⟨[I22_0q], [(.exit 0, X0_22_0q)], snap_Bytes_L0X, fun k d => c22_0q (snap_Bytes_L0 k k) d, fun b x _ K => K (.exit 0) (stOf b X0_22_0q (((), (), (), ()), ((f0_11 x.1 ()), (f0_4 x.2.1 ()), x.2.2, ())))⟩
def I22_1q : Spec := ⟨[(1, .c (.lit (.ptr 1001000 0))), (4, .c (.lit (.osl 1001001 none))), (79, .c (.dat true y25q)), (80, .c (.int .i64)), (81, .c (.int .i64))], [.box true cs6q, .arr true (.sl (.int .i64))], []⟩
def X0_22_1q : Spec := ⟨[(1, .c (.lit (.ptr 1001000 0))), (4, .c (.lit (.osl 1001001 none)))], [.box true cs6q, .arr true (.sl (.int .i64))], []⟩
def c22_1q (f : snap_Bytes_L1T) (d : I22_1q.den) : Option snap_Bytes_L1X := f d.1.2.2.1.1 d.1.2.2.2.1.1 d.1.2.2.2.2.1.1 (g0_11 d.2.1) d.2.2.1
def L22_1q : LoopSum := ⟨[I22_1q], [(.exit 2, X0_22_1q)], snap_Bytes_L1X, fun k d => c22_1q (snap_Bytes_L1 k k) d, fun b x _ K => K (.exit 2) (stOf b X0_22_1q (((), (), ()), ((f0_11 x.1 ()), x.2, ())))⟩
noncomputable def E22q : Env := ⟨prog, fun _ => false, sumsOf [R18q, R21q]⟩
def A22q : Notes := ⟨[], [(4, L22_0q), (14, L22_1q)], [], true⟩
theorem B22q : EnvB E22q := env_n (l := [R18q, R21q]) mixed_orders ⟨F18q, F21q, trivial⟩
theorem lk22_0q : LoopOK prog 1000 0 110 (loopAt (bodyOf f66) 0) L22_0q := lp (A := A22q) L22_0q (fun d => ((g0_11 d.2.1), (g0_4 d.2.2.1), d.2.2.2.1)) c22_0q snap_Bytes_L0 snap_Bytes_L0b B22q loops0
theorem lk22_1q : LoopOK prog 1000 0 110 (loopAt (bodyOf f66) 1) L22_1q := lp (A := A22q) L22_1q (fun d => ((g0_11 d.2.1), d.2.2.1)) c22_1q snap_Bytes_L1 snap_Bytes_L1b B22q loops0
def R22q : Nat × Entry := entA 66 [.agg pc33q] (.c (.own (.int .u8))) (fun k d => snap_Bytes k (g0_11 d)) (fun x => (x, ()))
theorem F22q : FnOK prog R22q := fA (rs := .c (.own (.int .u8))) f66 A22q (fun d => d.1) B22q (loopsOK_of (n := 2) (by kernel_rfl) fun i hi => match i, hi with | 0, _ => ⟨L22_0q, by kernel_rfl, lk22_0q⟩ | 1, _ => ⟨L22_1q, by kernel_rfl, lk22_1q⟩ | i + 2, hi => absurd hi (by omega))
def R23q : Nat × Entry := entA 178 [.c (.dat false (.int .u8))] (.tup [(false, [.own (.int .u8)]), (false, [.bool])]) (fun k d => rec_Put k d.1) (fun x => (x.1, x.2, ()))
theorem F23q : FnOK prog R23q := fA (rs := .tup [(false, [.own (.int .u8)]), (false, [.bool])]) f178 ⟨[], [], [], true⟩ (fun d => (d.1, d.2.1)) (env_n (l := []) mixed_orders trivial) loops0
def R24q : Nat × Entry := entA 179 [.ptr pc29q] (.c (.int .i64)) (fun k d => tape_Deck_Room k (g0_10 d)) (fun x => (x, ()))
theorem F24q : FnOK prog R24q := fA (rs := .c (.int .i64)) f179 ⟨[], [], [], true⟩ (fun d => d.1) (env_n (l := []) mixed_orders trivial) loops0
def R25q : Nat × Entry := entA 91 [.ptr pc29q] (.c (.bool)) (fun k d => tape_Deck_Down k (g0_10 d)) (fun x => (x, ()))
theorem F25q : FnOK prog R25q := fA (rs := .c (.bool)) f91 ⟨[], [], [], true⟩ (fun d => d.1) (env_n (l := []) mixed_orders trivial) loops0
def R26q : Nat × Entry := entX 93 [.ptr true xc62q] (.c (.bool)) [rc49q] 0 (fun k d => tape_Deck_falls k (g0_10 d)) (fun x => (x.1, (f0_10 x.2 ())))
theorem F26q : FnOK prog R26q := fX (rs := .c (.bool)) (os := [rc49q]) (ns := 0) f93 ⟨[], [], [(6, 3)], true⟩ 1 (fun d => (d.1, (g1_10 d))) (env_n (l := []) mixed_orders trivial) (loopsOK_or (n := 1) (by kernel_rfl) fun i hi => match i, hi with | 0, _ => .inr ⟨by kernel_rfl, loops0⟩ | i + 1, hi => absurd hi (by omega))
def R27q : Nat × Entry := entX 180 [.ptr true xc62q, .c (.p (.int .i64))] (.c (.int .i64)) [rc49q] 0 (fun k d => tape_Deck_Wipe k (g0_10 d) d.2.2.2.2.2.2.2.2.2.2.1) (fun x => (x.1, (f0_10 x.2 ())))
theorem F27q : FnOK prog R27q := fX (rs := .c (.int .i64)) (os := [rc49q]) (ns := 0) f180 ⟨[], [], [], true⟩ 1 (fun d => (d.1, (g1_10 d))) (env_n (l := [R25q, R7q, R26q]) mixed_orders ⟨F25q, F7q, F26q, trivial⟩) loops0
def R28q : Nat × Entry := entX 29 [.ptr true xc62q, .c (.p (.int .i64)), .c (.p (.dat false (.int .u8)))] (.c (.int .i64)) [rc49q] 0 (fun k d => tape_Deck_Append k (g0_10 d) d.2.2.2.2.2.2.2.2.2.2.1 d.2.2.2.2.2.2.2.2.2.2.2.1) (fun x => (x.1, (f0_10 x.2 ())))
theorem F28q : FnOK prog R28q := fX (rs := .c (.int .i64)) (os := [rc49q]) (ns := 0) f29 ⟨[], [], [], true⟩ 1 (fun d => (d.1, (g1_10 d))) (env_n (l := [R25q, R7q, R26q]) mixed_orders ⟨F25q, F7q, F26q, trivial⟩) loops0
def R29q : Nat × Entry := entX 30 [.ptr true xc62q] (.c (.int .i64)) [rc49q] 0 (fun k d => tape_Deck_Sync k (g0_10 d)) (fun x => (x.1, (f0_10 x.2 ())))
theorem F29q : FnOK prog R29q := fX (rs := .c (.int .i64)) (os := [rc49q]) (ns := 0) f30 ⟨[], [], [(4, 3)], true⟩ 1 (fun d => (d.1, (g1_10 d))) (env_n (l := [R25q, R26q]) mixed_orders ⟨F25q, F26q, trivial⟩) (loopsOK_or (n := 1) (by kernel_rfl) fun i hi => match i, hi with | 0, _ => .inr ⟨by kernel_rfl, loops0⟩ | i + 1, hi => absurd hi (by omega))
def R30q : Nat × Entry := entX 120 [.ptr true xc62q, .c (.p (.int .i64)), .c (.p (.int .i64)), .c (.p (.dat false (.int .u8)))] (.c (.int .i64)) [rc49q] 0 (fun k d => log_saves k (g0_10 d) d.2.2.2.2.2.2.2.2.2.2.1 d.2.2.2.2.2.2.2.2.2.2.2.1 d.2.2.2.2.2.2.2.2.2.2.2.2.1) (fun x => (x.1, (f0_10 x.2 ())))
theorem F30q : FnOK prog R30q := fX (rs := .c (.int .i64)) (os := [rc49q]) (ns := 0) f120 ⟨[], [], [], true⟩ 1 (fun d => (d.1, (g1_10 d))) (env_n (l := [R19q, R23q, R24q, R27q, R28q, R29q]) mixed_orders ⟨F19q, F23q, F24q, F27q, F28q, F29q, trivial⟩) loops0
def R31q : Nat × Entry := entN 65 [.ptr true xc62q, .c (.p (.dat false (.int .u8)))] (.tup [(false, [.link 1]), (false, rc38q), (false, rc39q), (false, rc41q)]) [rc49q, rc52q] 1 (.tup [(false, [.nilp]), (false, [.own (.int .u8)]), (false, [.own (.sl (.int .u8))]), (false, rc41q)]) [rc49q] 0 (fun k d => log_Open k (g0_10 d) d.2.2.2.2.2.2.2.2.2.2.1) (fun x => ((), x.1, x.2.1, x.2.2.1, (f0_10 x.2.2.2.1 ((), (f0_4 x.2.2.2.2 ()))))) (fun x => ((), x.1, x.2.1, x.2.2.1, (f0_10 x.2.2.2 ())))
theorem F31q : FnOK prog R31q := fN (rs := .tup [(false, [.link 1]), (false, rc38q), (false, rc39q), (false, rc41q)]) (os := [rc49q, rc52q]) (ns := 1) (rs2 := .tup [(false, [.nilp]), (false, [.own (.int .u8)]), (false, [.own (.sl (.int .u8))]), (false, rc41q)]) (os2 := [rc49q]) (ns2 := 0) f65 ⟨[], [], [], true⟩ 1 (fun d => (d.2.1, d.2.2.1, d.2.2.2.1, (g4_10 d), (g15_4 d))) (fun d => (d.2.1, d.2.2.1, d.2.2.2.1, (g4_10 d))) (env_n (l := [R13q, R30q]) mixed_orders ⟨F13q, F30q, trivial⟩) loops0
def R32q : Nat × Entry := entA 182 [.c (.dat true (.int .u8))] (.tup [(false, rc57q), (false, rc38q), (false, [.bool])]) (fun k d => word_Next k d.1) (fun x => (x.1, x.2.1, x.2.2, ()))
theorem F32q : FnOK prog R32q := fA (rs := .tup [(false, rc57q), (false, rc38q), (false, [.bool])]) f182 ⟨[], [], [], true⟩ (fun d => (d.1, d.2.1, d.2.2.1)) (env_n (l := [R11q]) mixed_orders ⟨F11q, trivial⟩) loops0
def R33q : Nat × Entry := entX 125 [.ptr true [.p (.dat true (.int .u8)), .p (.bool)]] (.c (.own (.int .i64))) [[.fro (.int .u8), .bool]] 0 (fun k d => snap_reader_row k (d.1, d.2.1)) (fun x => (x.1, x.2.1, x.2.2, ()))
theorem F33q : FnOK prog R33q := fX (rs := .c (.own (.int .i64))) (os := [[.fro (.int .u8), .bool]]) (ns := 0) f125 ⟨[], [], [], true⟩ 1 (fun d => (d.1, (d.2.1, d.2.2.1))) (env_n (l := [R32q]) mixed_orders ⟨F32q, trivial⟩) loops0
def R34q : Nat × Entry := entX 123 [.ptr true [.p (.dat true (.int .u8)), .p (.bool)], .c (.p (.int .i64))] (.c (.own (.int .i64))) [[.fro (.int .u8), .bool]] 0 (fun k d => snap_reader_just k (d.1, d.2.1) d.2.2.1) (fun x => (x.1, x.2.1, x.2.2, ()))
theorem F34q : FnOK prog R34q := fX (rs := .c (.own (.int .i64))) (os := [[.fro (.int .u8), .bool]]) (ns := 0) f123 ⟨[], [], [], true⟩ 1 (fun d => (d.1, (d.2.1, d.2.2.1))) (env_n (l := [R33q]) mixed_orders ⟨F33q, trivial⟩) loops0
def I35_0q : Spec := ⟨[(0, .c (.lit (.ptr 1001000 0))), (1, .c (.int .i64)), (5, .c (.lit (.osl 1001001 none)))], [.box true cs2q, .arr true (.sl (.int .i64))], [(5, none, (.sl (.int .i64)), false)]⟩
def X0_35_0q : Spec := ⟨[(0, .c (.lit (.ptr 1001000 0))), (5, .c (.lit (.osl 1001001 none)))], [.box true cs2q, .arr true (.sl (.int .i64))], []⟩
def c35_0q (f : snap_reader_square_L0T) (d : I35_0q.den) : Option snap_reader_square_L0X := f d.1.2.1.1 (d.2.1.1, d.2.1.2.1) d.2.2.1
def L35_0q : LoopSum := ⟨[I35_0q], [(.exit 0, X0_35_0q)], snap_reader_square_L0X, fun k d => c35_0q (snap_reader_square_L0 k k) d, fun b x _ K => K (.exit 0) (stOf b X0_35_0q (((), (), ()), ((x.1.1, x.1.2, ()), x.2, ())))⟩
noncomputable def E35q : Env := ⟨prog, fun _ => false, sumsOf [R33q]⟩
def A35q : Notes := ⟨[], [(2, L35_0q)], [], true⟩
theorem B35q : EnvB E35q := env_n (l := [R33q]) mixed_orders ⟨F33q, trivial⟩
theorem lk35_0q : LoopOK prog 1000 1 23 (loopAt (bodyOf f124) 0) L35_0q := lp (A := A35q) L35_0q (fun d => ((d.2.1.1, d.2.1.2.1), d.2.2.1)) c35_0q snap_reader_square_L0 snap_reader_square_L0b B35q loops0
def R35q : Nat × Entry := entX 124 [.ptr true [.p (.dat true (.int .u8)), .p (.bool)], .c (.p (.int .i64))] (.c (.own (.sl (.int .i64)))) [[.fro (.int .u8), .bool]] 0 (fun k d => snap_reader_square k (d.1, d.2.1) d.2.2.1) (fun x => (x.1, x.2.1, x.2.2, ()))
theorem F35q : FnOK prog R35q := fX (rs := .c (.own (.sl (.int .i64)))) (os := [[.fro (.int .u8), .bool]]) (ns := 0) f124 A35q 1 (fun d => (d.1, (d.2.1, d.2.2.1))) B35q (loops1 lk35_0q)
def R36q : Nat × Entry := entA 126 [.c (.dat false (.int .u8)), .c (.dat false (.int .u8))] (.c (.bool)) (fun k d => bytes_Equal k d.1 d.2.1) (fun x => (x, ()))
theorem F36q : FnOK prog R36q := fA (rs := .c (.bool)) f126 ⟨[], [], [], true⟩ (fun d => d.1) (env_n (l := []) mixed_orders trivial) loops0
def I37_0q : Spec := ⟨[(0, .c (.dat true (.int .u8))), (2, .c (.lit (.ptr 1001000 0))), (4, .c (.lit (.ptr 1001001 0))), (5, .c (.lit (.osl 1001002 none))), (6, .c (.lit (.ptr 1001003 0))), (7, .c (.int .i64))], [.box true cs20q, .box true cs2q, .arr true (.int .i64), .box true cs19q, .arr true y14q], [(6, some 1, y14q, false)]⟩
def X0_37_0q : Spec := ⟨[(0, .c (.dat true (.int .u8))), (2, .c (.lit (.ptr 1001000 0))), (4, .c (.lit (.ptr 1001001 0))), (5, .c (.lit (.osl 1001002 none))), (6, .c (.lit (.ptr 1001003 0)))], [.box true cs20q, .box true cs2q, .arr true (.int .i64), .box true cs19q, .arr true y14q], []⟩
def c37_0q (f : snap_Read_L0T) (d : I37_0q.den) : Option snap_Read_L0X := f d.1.1.1 d.1.2.2.2.2.2.1.1 (d.2.1.1, d.2.1.2.1, d.2.1.2.2.1) (d.2.2.1.1, d.2.2.1.2.1) d.2.2.2.1 (d.2.2.2.2.1.1, d.2.2.2.2.1.2.1, d.2.2.2.2.1.2.2.1) d.2.2.2.2.2.1
def L37_0q : LoopSum := ⟨[I37_0q], [(.exit 0, X0_37_0q)], snap_Read_L0X, fun k d => c37_0q (snap_Read_L0 k k) d, fun b x _ K => K (.exit 0) (stOf b X0_37_0q (((x.1, ()), (), (), (), (), ()), ((x.2.1.1, x.2.1.2.1, x.2.1.2.2, ()), (x.2.2.1.1, x.2.2.1.2, ()), x.2.2.2.1, (x.2.2.2.2.1.1, x.2.2.2.2.1.2.1, x.2.2.2.2.1.2.2, ()), x.2.2.2.2.2, ())))⟩
def I37_1q : Spec := ⟨[(0, .c (.dat true (.int .u8))), (2, .c (.lit (.ptr 1001000 0))), (4, .c (.lit (.ptr 1001001 0))), (6, .c (.lit (.ptr 1001002 0))), (9, .c (.int .i64))], [.box true cs20q, .box true cs2q, .box true cs16q, .arr true y14q, .arr true (.sl (.int .i64)), .arr true (.int .i64), .arr true (.sl (.int .i64)), .arr true (.int .i64), .arr true (.sl (.int .i64)), .arr true y25q], [(6, some 7, y25q, false)]⟩
def X0_37_1q : Spec := ⟨[(0, .c (.dat true (.int .u8))), (2, .c (.lit (.ptr 1001000 0))), (4, .c (.lit (.ptr 1001001 0))), (6, .c (.lit (.ptr 1001002 0)))], [.box true cs20q, .box true cs2q, .box true cs16q, .arr true y14q, .arr true (.sl (.int .i64)), .arr true (.int .i64), .arr true (.sl (.int .i64)), .arr true (.int .i64), .arr true (.sl (.int .i64)), .arr true y25q], []⟩
def c37_1q (f : snap_Read_L1T) (d : I37_1q.den) : Option snap_Read_L1X := f d.1.1.1 d.1.2.2.2.2.1.1 (d.2.1.1, d.2.1.2.1, d.2.1.2.2.1) (d.2.2.1.1, d.2.2.1.2.1) (d.2.2.2.1.1, d.2.2.2.1.2.1, d.2.2.2.1.2.2.1) d.2.2.2.2.1 d.2.2.2.2.2.1 d.2.2.2.2.2.2.1 d.2.2.2.2.2.2.2.1 d.2.2.2.2.2.2.2.2.1 d.2.2.2.2.2.2.2.2.2.1 d.2.2.2.2.2.2.2.2.2.2.1
def L37_1q : LoopSum := ⟨[I37_1q], [(.exit 2, X0_37_1q)], snap_Read_L1X, fun k d => c37_1q (snap_Read_L1 k k) d, fun b x _ K => K (.exit 2) (stOf b X0_37_1q (((x.1, ()), (), (), (), ()), ((x.2.1.1, x.2.1.2.1, x.2.1.2.2, ()), (x.2.2.1.1, x.2.2.1.2, ()), (x.2.2.2.1.1, x.2.2.2.1.2.1, x.2.2.2.1.2.2, ()), x.2.2.2.2.1, x.2.2.2.2.2.1, x.2.2.2.2.2.2.1, x.2.2.2.2.2.2.2.1, x.2.2.2.2.2.2.2.2.1, x.2.2.2.2.2.2.2.2.2.1, x.2.2.2.2.2.2.2.2.2.2, ())))⟩
noncomputable def E37q : Env := ⟨prog, fun _ => false, sumsOf [R34q, R35q, R33q, R22q, R36q]⟩
def A37q : Notes := ⟨[], [(5, L37_0q), (15, L37_1q)], [], true⟩
theorem B37q : EnvB E37q := env_n (l := [R34q, R35q, R33q, R22q, R36q]) mixed_orders ⟨F34q, F35q, F33q, F22q, F36q, trivial⟩
theorem lk37_0q : LoopOK prog 1000 0 146 (loopAt (bodyOf f67) 0) L37_0q := lp (A := A37q) L37_0q (fun d => (d.1.1.1, (d.2.1.1, d.2.1.2.1, d.2.1.2.2.1), (d.2.2.1.1, d.2.2.1.2.1), d.2.2.2.1, (d.2.2.2.2.1.1, d.2.2.2.2.1.2.1, d.2.2.2.2.1.2.2.1), d.2.2.2.2.2.1)) c37_0q snap_Read_L0 snap_Read_L0b B37q loops0
theorem lk37_1q : LoopOK prog 1000 0 146 (loopAt (bodyOf f67) 1) L37_1q := lp (A := A37q) L37_1q (fun d => (d.1.1.1, (d.2.1.1, d.2.1.2.1, d.2.1.2.2.1), (d.2.2.1.1, d.2.2.1.2.1), (d.2.2.2.1.1, d.2.2.2.1.2.1, d.2.2.2.1.2.2.1), d.2.2.2.2.1, d.2.2.2.2.2.1, d.2.2.2.2.2.2.1, d.2.2.2.2.2.2.2.1, d.2.2.2.2.2.2.2.2.1, d.2.2.2.2.2.2.2.2.2.1, d.2.2.2.2.2.2.2.2.2.2.1)) c37_1q snap_Read_L1 snap_Read_L1b B37q loops0
def R37q : Nat × Entry := entA 67 [.c (.dat true (.int .u8))] (.tup [(true, rc42q), (false, [.bool])]) (fun k d => snap_Read k d.1) (fun x => (f0_11 x.1 (x.2, ())))
theorem F37q : FnOK prog R37q := fA (rs := .tup [(true, rc42q), (false, [.bool])]) f67 A37q (fun d => ((g0_11 d), d.2.2.2.2.2.2.2.2.2.2.2.1)) B37q (loopsOK_of (n := 2) (by kernel_rfl) fun i hi => match i, hi with | 0, _ => ⟨L37_0q, by kernel_rfl, lk37_0q⟩ | 1, _ => ⟨L37_1q, by kernel_rfl, lk37_1q⟩ | i + 2, hi => absurd hi (by omega))
def R38q : Nat × Entry := entA 140 [.c (.int .i64)] (.c (.int .i64)) (fun k d => msg_Many k d.1) (fun x => (x, ()))
theorem F38q : FnOK prog R38q := fA (rs := .c (.int .i64)) f140 ⟨[], [], [], true⟩ (fun d => d.1) (env_n (l := []) mixed_orders trivial) loops0
def R39q : Nat × Entry := entA 76 [.c (.dat false (.int .u8))] (.tup [(true, rc46q), (false, rc41q)]) (fun k d => msg_Read k d.1) (fun x => (f0_7 x.1 (x.2, ())))
theorem F39q : FnOK prog R39q := fA (rs := .tup [(true, rc46q), (false, rc41q)]) f76 ⟨[], [], [], true⟩ (fun d => ((g0_7 d), d.2.2.2.2.2.2.2.1)) (env_n (l := [R11q, R38q]) mixed_orders ⟨F11q, F38q, trivial⟩) loops0
def R40q : Nat × Entry := entA 69 [.c (.dat false (.int .u8))] (.tup [(true, rc47q), (false, rc41q)]) (fun k d => msg_ReadCmd k d.1) (fun x => (f0_8 x.1 (x.2, ())))
theorem F40q : FnOK prog R40q := fA (rs := .tup [(true, rc47q), (false, rc41q)]) f69 ⟨[], [], [], true⟩ (fun d => ((g0_8 d), d.2.2.2.2.2.2.2.2.1)) (env_n (l := [R11q, R39q]) mixed_orders ⟨F11q, F39q, trivial⟩) loops0
def R41q : Nat × Entry := entA 201 [.c (.int .i64)] (.c (.bool)) (fun k d => msg_Host k d.1) (fun x => (x, ()))
theorem F41q : FnOK prog R41q := fA (rs := .c (.bool)) f201 ⟨[], [], [], true⟩ (fun d => d.1) (env_n (l := []) mixed_orders trivial) loops0
def R42q : Nat × Entry := entA 202 [.c (.int .i64)] (.c (.bool)) (fun k d => msg_Asked k d.1) (fun x => (x, ()))
theorem F42q : FnOK prog R42q := fA (rs := .c (.bool)) f202 ⟨[], [], [], true⟩ (fun d => d.1) (env_n (l := []) mixed_orders trivial) loops0
def I43_0q : Spec := ⟨[(13, .c (.dat true (.int .i64))), (14, .c (.int .i64)), (15, .c (.int .i64))], [], []⟩
def X0_43_0q : Spec := ⟨[], [], []⟩
def X1_43_0q : Spec := ⟨[(2, .c (.bool))], [], []⟩
def c43_0q (f : msg_Is_L0T) (d : I43_0q.den) : Option (Unit ⊕ Bool) := f d.1.1.1 d.1.2.1.1 d.1.2.2.1.1
def L43_0q : LoopSum := ⟨[I43_0q], [(.exit 0, X0_43_0q), (.ret, X1_43_0q)], (Unit ⊕ Bool), fun k d => c43_0q (msg_Is_L0 k k) d, fun b x _ K => match x with | .inl x => K (.exit 0) (stOf b X0_43_0q ((), ())) | .inr x => K .ret (stOf b X1_43_0q (((x, ()), ()), ()))⟩
noncomputable def E43q : Env := ⟨prog, fun _ => false, sumsOf [R38q]⟩
def A43q : Notes := ⟨[], [(5, L43_0q)], [], true⟩
theorem B43q : EnvB E43q := env_n (l := [R38q]) mixed_orders ⟨F38q, trivial⟩
theorem lk43_0q : LoopOK prog 1000 0 22 (loopAt (bodyOf f203) 0) L43_0q := lp (A := A43q) L43_0q (fun d => match d with | .inl d => .inl () | .inr d => .inr d.1.1.1) c43_0q msg_Is_L0 msg_Is_L0b B43q loops0
def R43q : Nat × Entry := entA 203 [.agg pc36q] (.c (.bool)) (fun k d => msg_Is k (g0_7 d)) (fun x => (x, ()))
theorem F43q : FnOK prog R43q := fA (rs := .c (.bool)) f203 A43q (fun d => d.1) B43q (loops1 lk43_0q)
def R44q : Nat × Entry := entA 133 [.agg pc31q, .agg pc30q, .agg pc37q] (.c (.int .i64)) (fun k d => core_may k (g0_5 d) (g5_11 d) (g16_8 d)) (fun x => (x, ()))
theorem F44q : FnOK prog R44q := fA (rs := .c (.int .i64)) f133 ⟨[], [], [], true⟩ (fun d => d.1) (env_n (l := [R41q, R42q, R43q]) mixed_orders ⟨F41q, F42q, F43q, trivial⟩) loops0
def R45q : Nat × Entry := entA 256 [.agg pc36q, .ptr [.int .i64]] (.c (.bool)) (fun k d => (u0_8 (view_Of_fn1 k) d)) (fun x => (x, ()))
theorem F45q : FnOK prog R45q := fA (rs := .c (.bool)) f256 ⟨[], [], [], false⟩ (fun d => d.1) (env_n (l := []) mixed_orders trivial) loops0
def I46_0q : Spec := ⟨[(1, .c (.lit (.fn 256 [1001000]))), (5, .c (.lit (.osl 1001001 none))), (8, .c (.dat false y25q)), (9, .c (.int .i64)), (10, .c (.int .i64))], [.robox [.int .i64], .arr true y25q], [(5, none, y25q, false)]⟩
def X0_46_0q : Spec := ⟨[(5, .c (.lit (.osl 1001000 none)))], [.arr true y25q], []⟩
def c46_0q (f : view_all__view_Of_fn1_L0T) (d : I46_0q.den) : Option view_all__view_Of_fn1_L0X := f d.1.2.2.1.1 d.1.2.2.2.1.1 d.1.2.2.2.2.1.1 d.2.1.1 d.2.2.1
def L46_0q : LoopSum := ⟨[I46_0q], [(.exit 0, X0_46_0q)], view_all__view_Of_fn1_L0X, fun k d => c46_0q (view_all__view_Of_fn1_L0 k k) d, fun b x _ K => K (.exit 0) (stOf b X0_46_0q (((), ()), (x, ())))⟩
noncomputable def E46q : Env := ⟨prog, fun _ => false, sumsOf [R45q]⟩
def A46q : Notes := ⟨[], [(3, L46_0q)], [], false⟩
theorem B46q : EnvB E46q := env_n (l := [R45q]) mixed_orders ⟨F45q, trivial⟩
theorem lk46_0q : LoopOK prog 1000 0 23 (loopAt (bodyOf f255) 0) L46_0q := lp (A := A46q) L46_0q (fun d => d.2.1) c46_0q view_all__view_Of_fn1_L0 view_all__view_Of_fn1_L0b B46q loops0
def R46q : Nat × Entry := entA 255 [.c (.dat false y25q), .fn 256 [[.int .i64]]] (.c (.own y25q)) (fun k d => view_all__view_Of_fn1 k d.1 d.2.1) (fun x => (x, ()))
theorem F46q : FnOK prog R46q := fA (rs := .c (.own y25q)) f255 A46q (fun d => d.1) B46q (loops1 lk46_0q)
def R47q : Nat × Entry := entA 204 [.c (.dat false y25q), .c (.int .i64)] (.c (.own y25q)) (fun k d => view_Of k d.1 d.2.1) (fun x => (x, ()))
theorem F47q : FnOK prog R47q := fA (rs := .c (.own y25q)) f204 ⟨[], [], [], false⟩ (fun d => d.1) (env_n (l := [R46q]) mixed_orders ⟨F46q, trivial⟩) loops0
def R48q : Nat × Entry := entX 135 [.ptr true [.p (.int .i64), .p (.nil), .p (.int .i64), .p (.int .i64), .p (.int .i64), .p (.int .i64), .p (.nil), .p (.nil), .p (.nil), .p (.nil), .p (.nil), .p (.nil), .p (.nil), .p (.nil), .p (.int .i64), .p (.bool), .p (.int .i64), .p (.nil)], .c (.p (.int .i64)), .c (.p (.dat false (.int .i64)))] (.tup []) [rc51q] 0 (fun k d => core_desk_tells k (d.1, (j2_4 d (d.2.2.2.2.2.2.2.2.2.2.2.2.2.2.1, d.2.2.2.2.2.2.2.2.2.2.2.2.2.2.2.1, d.2.2.2.2.2.2.2.2.2.2.2.2.2.2.2.2.1))) d.2.2.2.2.2.2.2.2.2.2.2.2.2.2.2.2.2.2.1 d.2.2.2.2.2.2.2.2.2.2.2.2.2.2.2.2.2.2.2.1) (fun x => (f0_18 x ()))
theorem F48q : FnOK prog R48q := fX (rs := .tup []) (os := [rc51q]) (ns := 0) f135 ⟨[], [], [], true⟩ 1 (fun d => (g0_18 d)) (env_n (l := []) mixed_orders trivial) loops0
def R49q : Nat × Entry := entA 134 [.agg pc30q, .c (.int .i64)] (.c (.own y26q)) (fun k d => core_query k (g0_11 d) d.2.2.2.2.2.2.2.2.2.2.2.1) (fun x => (x, ()))
theorem F49q : FnOK prog R49q := fA (rs := .c (.own y26q)) f134 ⟨[], [], [], true⟩ (fun d => d.1) (env_n (l := [R47q, R48q]) mixed_orders ⟨F47q, F48q, trivial⟩) loops0
def R50q : Nat × Entry := entX 135 [.ptr true xc64q, .c (.p (.int .i64)), .c (.p (.dat false (.int .i64)))] (.tup []) [rc44q] 0 (fun k d => core_desk_tells_v2 k (g0_17 d) d.2.2.2.2.2.2.2.2.2.2.2.2.2.2.2.2.2.2.1 d.2.2.2.2.2.2.2.2.2.2.2.2.2.2.2.2.2.2.2.1) (fun x => (f0_18 x ()))
theorem F50q : FnOK prog R50q := fX (rs := .tup []) (os := [rc44q]) (ns := 0) f135 ⟨[], [], [], true⟩ 1 (fun d => (g0_18 d)) (env_n (l := []) mixed_orders trivial) loops0
def R51q : Nat × Entry := entA 127 [.c (.int .i64), .c (.int .i64), .c (.int .i64)] (.c (.bool)) (fun k d => core_in k d.1 d.2.1 d.2.2.1) (fun x => (x, ()))
theorem F51q : FnOK prog R51q := fA (rs := .c (.bool)) f127 ⟨[], [], [], true⟩ (fun d => d.1) (env_n (l := []) mixed_orders trivial) loops0
def R52q : Nat × Entry := entA 326 [.agg pc31q, .c (.int .i64)] (.c (.bool)) (fun k d => pay_isParty k (g0_5 d) d.2.2.2.2.2.1) (fun x => (x, ()))
theorem F52q : FnOK prog R52q := fA (rs := .c (.bool)) f326 ⟨[], [], [], true⟩ (fun d => d.1) (env_n (l := []) mixed_orders trivial) loops0
def R53q : Nat × Entry := entA 295 [.agg pc31q, .c (.int .i64), .agg pc36q] (.c (.bool)) (fun k d => pay_isPay k (g0_5 d) d.2.2.2.2.2.1 (g6_7 d)) (fun x => (x, ()))
theorem F53q : FnOK prog R53q := fA (rs := .c (.bool)) f295 ⟨[], [], [], true⟩ (fun d => d.1) (env_n (l := [R52q]) mixed_orders ⟨F52q, trivial⟩) loops0
def R54q : Nat × Entry := entA 262 [.agg pc31q, .c (.int .i64), .c (.int .i64)] (.c (.int .i64)) (fun k d => day_May k (g0_5 d) d.2.2.2.2.2.1 d.2.2.2.2.2.2.1) (fun x => (x, ()))
theorem F54q : FnOK prog R54q := fA (rs := .c (.int .i64)) f262 ⟨[], [], [], true⟩ (fun d => d.1) (env_n (l := []) mixed_orders trivial) loops0
def R55q : Nat × Entry := entA 257 [.agg pc31q, .c (.int .i64), .agg pc36q] (.c (.int .i64)) (fun k d => pay_Check k (g0_5 d) d.2.2.2.2.2.1 (g6_7 d)) (fun x => (x, ()))
theorem F55q : FnOK prog R55q := fA (rs := .c (.int .i64)) f257 ⟨[], [], [], true⟩ (fun d => d.1) (env_n (l := [R53q, R54q]) mixed_orders ⟨F53q, F54q, trivial⟩) loops0
def R56q : Nat × Entry := entA 324 [.c (.int .i64)] (.c (.bool)) (fun k d => cmp_isNaN_int64 k d.1) (fun x => (x, ()))
theorem F56q : FnOK prog R56q := fA (rs := .c (.bool)) f324 ⟨[], [], [], true⟩ (fun d => d.1) (env_n (l := []) mixed_orders trivial) loops0
def R57q : Nat × Entry := entA 291 [.c (.int .i64), .c (.int .i64)] (.c (.bool)) (fun k d => cmp_Less_int64 k d.1 d.2.1) (fun x => (x, ()))
theorem F57q : FnOK prog R57q := fA (rs := .c (.bool)) f291 ⟨[], [], [], true⟩ (fun d => d.1) (env_n (l := [R56q]) mixed_orders ⟨F56q, trivial⟩) loops0
def R58q : Nat × Entry := entA 292 [.c (.int .i64)] (.c (.bool)) (fun k d => slices_isNaN_int64 k d.1) (fun x => (x, ()))
theorem F58q : FnOK prog R58q := fA (rs := .c (.bool)) f292 ⟨[], [], [], true⟩ (fun d => d.1) (env_n (l := []) mixed_orders trivial) loops0
def I59_0q : Spec := ⟨[(0, .c (.dat false (.int .i64))), (1, .c (.int .i64)), (6, .c (.int .i64)), (7, .c (.int .i64)), (8, .c (.int .i64))], [], []⟩
def X0_59_0q : Spec := ⟨[(0, .c (.dat false (.int .i64))), (1, .c (.int .i64)), (6, .c (.int .i64)), (7, .c (.int .i64))], [], []⟩
def c59_0q (f : slices_BinarySearch_int64_L0T) (d : I59_0q.den) : Option slices_BinarySearch_int64_L0X := f d.1.1.1 d.1.2.1.1 d.1.2.2.1.1 d.1.2.2.2.1.1 d.1.2.2.2.2.1.1
def L59_0q : LoopSum := ⟨[I59_0q], [(.exit 0, X0_59_0q)], slices_BinarySearch_int64_L0X, fun k d => c59_0q (slices_BinarySearch_int64_L0 k k) d, fun b x _ K => K (.exit 0) (stOf b X0_59_0q (((x.1, ()), (x.2.1, ()), (x.2.2.1, ()), (x.2.2.2, ()), ()), ()))⟩
noncomputable def E59q : Env := ⟨prog, fun _ => false, sumsOf [R57q, R58q]⟩
def A59q : Notes := ⟨[], [(3, L59_0q)], [], true⟩
theorem B59q : EnvB E59q := env_n (l := [R57q, R58q]) mixed_orders ⟨F57q, F58q, trivial⟩
theorem lk59_0q : LoopOK prog 1000 0 54 (loopAt (bodyOf f252) 0) L59_0q := lp (A := A59q) L59_0q (fun d => (d.1.1.1, d.1.2.1.1, d.1.2.2.1.1, d.1.2.2.2.1.1)) c59_0q slices_BinarySearch_int64_L0 slices_BinarySearch_int64_L0b B59q loops0
def R59q : Nat × Entry := entA 252 [.c (.dat false (.int .i64)), .c (.int .i64)] (.tup [(false, rc41q), (false, [.bool])]) (fun k d => slices_BinarySearch_int64 k d.1 d.2.1) (fun x => (x.1, x.2, ()))
theorem F59q : FnOK prog R59q := fA (rs := .tup [(false, rc41q), (false, [.bool])]) f252 A59q (fun d => (d.1, d.2.1)) B59q (loops1 lk59_0q)
def R60q : Nat × Entry := entC 297 false (.int .i64) (.own (.int .i64)) slices_Clone_int64
theorem F60q : FnOK prog R60q := fC f297 ⟨[], [], [], false⟩ (env_n (l := []) mixed_orders trivial) loops0
theorem ie61q (A X : Option Addr) (n c vc : Nat) (w w' : World) (rv : Value) (hr : (Builtin.append_ #[36, 36] 36 #[.slice A n c, .slice X 1 vc]).run prog w = .ok rv w') :
    Calls prog 296 #[.slice A n c, .int .i64 n, .slice X 1 vc] w fun e w'' => e = .returned rv ∧ w'' = w' := by
  have t0 : prog.underlying 36 = some (.slice 2) := by kernel_rfl
  have t3 : prog.underlying 3 = some (.int .i64) := by kernel_rfl
  have z0 : ∀ w, (Go.sizeOf 2).run prog w = .ok 1 w := fun w => by kernel_rfl
  have u0 := run_underlying t0; have u3 := run_underlying t3
  go_enter Proofs.Tryz.func296, Proofs.Tryz.ntmps296
  go_wp2_with (at_builtin; refine Lib.wpList_append_run _ rfl _ _ _ _ rfl _ _ rfl rfl _ _ hr ?_)
  all_goals (go_ret; exact ⟨rfl, rfl⟩)
theorem iw61q : InsOK prog 296 36 3 1 where
  ends := ie61q
  grow B off n c i X vo vc N G w w1 w2 w3 hi hnc hroom h63 hG hz hA hB := by
    simp only [Nat.mul_one] at hA hB
    have t0 : prog.underlying 36 = some (.slice 2) := by kernel_rfl
    have t3 : prog.underlying 3 = some (.int .i64) := by kernel_rfl
    have z0 : ∀ w, (Go.sizeOf 2).run prog w = .ok 1 w := fun w => by kernel_rfl
    have u0 := run_underlying t0; have u3 := run_underlying t3
    have mixed : prog.follows .mixedOrders = true := mixed_orders
    have hz2 : ¬ ((i : Int) = (n : Int)) := by omega
    have hw1 : IntKind.i64.wrap ((i : Int) + 1) = (i : Int) + 1 := by rw [IntKind.wrap_i64]; omega
    have hb1 : (0 : Int) ≤ (i : Int) + 1 := by omega
    have hin : i ≤ n := by omega
    have htn : ((i : Int) + 1).toNat = i + 1 := by omega
    have hci : ¬ (c = i) := by omega
    have hz3 : (c : Int) < (n : Int) + 1 := by omega
    have hb3 : (i : Int) ≤ (n : Int) := by omega
    have hGi : ¬ (G = i) := by omega
    have hGim : ¬ (G = i + 1) := by omega
    go_enter Proofs.Tryz.func296, Proofs.Tryz.ntmps296
    go_wp2_with (first
      | (at_builtin; refine Lib.wpList_append_run _ rfl _ _ _ _ rfl _ _ rfl rfl _ _ hz ?_)
      | (at_builtin; refine wpList_copy_runJ _ rfl _ _ 36 36 rfl _ _ rfl rfl (hA _) ?_))
    go_region_law_o (refine step_copy_runJ rfl _ _ 36 36 rfl (.slice (some ⟨N, (i + 1), none⟩) (n + 1 - (i + 1)) (G - (i + 1))) (.slice (some ⟨B, off + i, none⟩) (n - i) (c - i)) (by simp [Act.eval, Act.put]) (by simp [Act.eval, Act.put]) (hB (G - (i + 1)) (c - i)) ?_)
    go_wp2
    go_ret
    exact ⟨rfl, rfl⟩
  shift B off n c i X vo vc w w1 w2 hi hroom h63 hap hA hB := by
    simp only [Nat.mul_one] at hA hB
    have t0 : prog.underlying 36 = some (.slice 2) := by kernel_rfl
    have t3 : prog.underlying 3 = some (.int .i64) := by kernel_rfl
    have z0 : ∀ w, (Go.sizeOf 2).run prog w = .ok 1 w := fun w => by kernel_rfl
    have u0 := run_underlying t0; have u3 := run_underlying t3
    have mixed : prog.follows .mixedOrders = true := mixed_orders
    have hz2 : ¬ ((i : Int) = (n : Int)) := by omega
    have hw1 : IntKind.i64.wrap ((i : Int) + 1) = (i : Int) + 1 := by rw [IntKind.wrap_i64]; omega
    have hb1 : (0 : Int) ≤ (i : Int) + 1 := by omega
    have hin : i ≤ n := by omega
    have htn : ((i : Int) + 1).toNat = i + 1 := by omega
    have hci : ¬ (c = i) := by omega
    have hov := fun lb cb => over_apart (P := prog) (fo := 327) (tb := 4) (e := 2) (size := 1) Proofs.Tryz.func327 (by kernel_rfl) (by kernel_rfl) (by kernel_rfl) (by kernel_rfl) t0 z0 hap vo (off + (i + 1)) vc lb cb
    have hb2 : ¬ (c = i + 1) := by omega
    have hb3 : (i : Int) ≤ (n : Int) + 1 := by omega
    go_enter Proofs.Tryz.func296, Proofs.Tryz.ntmps296
    go_wp2_with (simp only [hov])
    go_region_law_o (refine step_copy_runJ rfl _ _ 36 36 rfl (.slice (some ⟨B, off + (i + 1), none⟩) (n - i) (c - (i + 1))) (.slice (some ⟨B, off + i, none⟩) (n + 1 - i) (c - i)) (by simp [Act.eval, Act.put]) (by simp [Act.eval, Act.put]) (hA _ _) ?_)
    go_wp2_with (at_builtin; refine wpList_copy_runJ _ rfl _ _ 36 36 rfl _ _ rfl rfl (hB _) ?_)
    go_ret
    exact ⟨rfl, rfl⟩
def R61q : Nat × Entry := (296, insE (.int .i64) 8)
theorem F61q : FnOK prog R61q := fn_ins (e := 2) (fn := f296) iw61q
def R62q : Nat × Entry := entA 258 [.c (.dat true (.int .i64)), .c (.int .i64)] (.tup [(false, [.fro (.int .i64)]), (false, rc41q)]) (fun k d => ids_Add k d.1 d.2.1) (fun x => (x.1, x.2, ()))
theorem F62q : FnOK prog R62q := fA (rs := .tup [(false, [.fro (.int .i64)]), (false, rc41q)]) f258 ⟨[], [], [], true⟩ (fun d => (d.1, d.2.1)) (env_n (l := [R59q, R60q, R61q]) mixed_orders ⟨F59q, F60q, F61q, trivial⟩) loops0
def R63q : Nat × Entry := entA 218 [.agg pc36q, .ptr [.int .i64]] (.c (.bool)) (fun k d => (u0_8 (row_Find_fn1 k) d)) (fun x => (x, ()))
theorem F63q : FnOK prog R63q := fA (rs := .c (.bool)) f218 ⟨[], [], [], false⟩ (fun d => d.1) (env_n (l := []) mixed_orders trivial) loops0
def I64_0q : Spec := ⟨[(0, .c (.dat false y25q)), (1, .c (.lit (.fn 218 [1001000]))), (7, .c (.int .i64)), (8, .c (.int .i64))], [.robox [.int .i64]], []⟩
def X0_64_0q : Spec := ⟨[], [], []⟩
def X1_64_0q : Spec := ⟨[(4, .c (.int .i64))], [], []⟩
def c64_0q (f : slices_IndexFunc_Pay__row_Find_fn1_L0T) (d : I64_0q.den) : Option (Unit ⊕ Int) := f d.1.1.1 d.1.2.2.1.1 d.1.2.2.2.1.1 d.2.1.1
def L64_0q : LoopSum := ⟨[I64_0q], [(.exit 0, X0_64_0q), (.ret, X1_64_0q)], (Unit ⊕ Int), fun k d => c64_0q (slices_IndexFunc_Pay__row_Find_fn1_L0 k k) d, fun b x _ K => match x with | .inl x => K (.exit 0) (stOf b X0_64_0q ((), ())) | .inr x => K .ret (stOf b X1_64_0q (((x, ()), ()), ()))⟩
noncomputable def E64q : Env := ⟨prog, fun _ => false, sumsOf [R63q]⟩
def A64q : Notes := ⟨[], [(2, L64_0q)], [], false⟩
theorem B64q : EnvB E64q := env_n (l := [R63q]) mixed_orders ⟨F63q, trivial⟩
theorem lk64_0q : LoopOK prog 1000 0 19 (loopAt (bodyOf f217) 0) L64_0q := lp (A := A64q) L64_0q (fun d => match d with | .inl d => .inl () | .inr d => .inr d.1.1.1) c64_0q slices_IndexFunc_Pay__row_Find_fn1_L0 slices_IndexFunc_Pay__row_Find_fn1_L0b B64q loops0
def R64q : Nat × Entry := entA 217 [.c (.dat false y25q), .fn 218 [[.int .i64]]] (.c (.int .i64)) (fun k d => slices_IndexFunc_Pay__row_Find_fn1 k d.1 d.2.1) (fun x => (x, ()))
theorem F64q : FnOK prog R64q := fA (rs := .c (.int .i64)) f217 A64q (fun d => d.1) B64q (loops1 lk64_0q)
def R65q : Nat × Entry := entA 139 [.c (.dat false y25q), .c (.int .i64)] (.c (.int .i64)) (fun k d => row_Find k d.1 d.2.1) (fun x => (x, ()))
theorem F65q : FnOK prog R65q := fA (rs := .c (.int .i64)) f139 ⟨[], [], [], false⟩ (fun d => d.1) (env_n (l := [R64q]) mixed_orders ⟨F64q, trivial⟩) loops0
def R66q : Nat × Entry := entA 325 [.c (.int .i64)] (.c (.bool)) (fun k d => cmp_isNaN_int k d.1) (fun x => (x, ()))
theorem F66q : FnOK prog R66q := fA (rs := .c (.bool)) f325 ⟨[], [], [], false⟩ (fun d => d.1) (env_n (l := []) mixed_orders trivial) loops0
def R67q : Nat × Entry := entA 294 [.c (.int .i64), .c (.int .i64)] (.c (.int .i64)) (fun k d => cmp_Compare_int k d.1 d.2.1) (fun x => (x, ()))
theorem F67q : FnOK prog R67q := fA (rs := .c (.int .i64)) f294 ⟨[], [], [], false⟩ (fun d => d.1) (env_n (l := [R66q]) mixed_orders ⟨F66q, trivial⟩) loops0
def I68_0q : Spec := ⟨[(3, .c (.int .i64)), (6, .c (.dat false (.int .i64))), (7, .c (.int .i64)), (8, .c (.int .i64))], [], []⟩
def X0_68_0q : Spec := ⟨[(3, .c (.int .i64))], [], []⟩
def X1_68_0q : Spec := ⟨[(2, .c (.int .i64))], [], []⟩
def c68_0q (f : cmp_Or_int_L0T) (d : I68_0q.den) : Option (Int ⊕ Int) := f d.1.1.1 d.1.2.1.1 d.1.2.2.1.1 d.1.2.2.2.1.1
def L68_0q : LoopSum := ⟨[I68_0q], [(.exit 0, X0_68_0q), (.ret, X1_68_0q)], (Int ⊕ Int), fun k d => c68_0q (cmp_Or_int_L0 k k) d, fun b x _ K => match x with | .inl x => K (.exit 0) (stOf b X0_68_0q (((x, ()), ()), ())) | .inr x => K .ret (stOf b X1_68_0q (((x, ()), ()), ()))⟩
noncomputable def E68q : Env := ⟨prog, fun _ => false, sumsOf []⟩
def A68q : Notes := ⟨[], [(3, L68_0q)], [], false⟩
theorem B68q : EnvB E68q := env_n (l := []) mixed_orders trivial
theorem lk68_0q : LoopOK prog 1000 0 18 (loopAt (bodyOf f293) 0) L68_0q := lp (A := A68q) L68_0q (fun d => match d with | .inl d => .inl d.1.1.1 | .inr d => .inr d.1.1.1) c68_0q cmp_Or_int_L0 cmp_Or_int_L0b B68q loops0
def R68q : Nat × Entry := entA 293 [.c (.dat false (.int .i64))] (.c (.int .i64)) (fun k d => cmp_Or_int k d.1) (fun x => (x, ()))
theorem F68q : FnOK prog R68q := fA (rs := .c (.int .i64)) f293 A68q (fun d => d.1) B68q (loops1 lk68_0q)
def R69q : Nat × Entry := entA 254 [.agg pc36q, .agg pc36q] (.c (.int .i64)) (fun k d => (u0_14 (row_order k) d)) (fun x => (x, ()))
theorem F69q : FnOK prog R69q := fA (rs := .c (.int .i64)) f254 ⟨[], [], [], false⟩ (fun d => d.1) (env_n (l := [R67q, R68q]) mixed_orders ⟨F67q, F68q, trivial⟩) loops0
def R70q : Nat × Entry := entC 299 false y25q (.own y25q) slices_Clone_Pay
theorem F70q : FnOK prog R70q := fC f299 ⟨[], [], [], false⟩ (env_n (l := []) mixed_orders trivial) loops0
theorem ie71q (A X : Option Addr) (n c vc : Nat) (w w' : World) (rv : Value) (hr : (Builtin.append_ #[39, 39] 39 #[.slice A n c, .slice X 1 vc]).run prog w = .ok rv w') :
    Calls prog 298 #[.slice A n c, .int .i64 n, .slice X 1 vc] w fun e w'' => e = .returned rv ∧ w'' = w' := by
  have t0 : prog.underlying 39 = some (.slice 177) := by kernel_rfl
  have t3 : prog.underlying 3 = some (.int .i64) := by kernel_rfl
  have z0 : ∀ w, (Go.sizeOf 177).run prog w = .ok 7 w := fun w => by kernel_rfl
  have u0 := run_underlying t0; have u3 := run_underlying t3
  go_enter Proofs.Tryz.func298, Proofs.Tryz.ntmps298
  go_wp2_with (at_builtin; refine Lib.wpList_append_run _ rfl _ _ _ _ rfl _ _ rfl rfl _ _ hr ?_)
  all_goals (go_ret; exact ⟨rfl, rfl⟩)
theorem iw71q : InsOK prog 298 39 3 7 where
  ends := ie71q
  grow B off n c i X vo vc N G w w1 w2 w3 hi hnc hroom h63 hG hz hA hB := by
    have t0 : prog.underlying 39 = some (.slice 177) := by kernel_rfl
    have t3 : prog.underlying 3 = some (.int .i64) := by kernel_rfl
    have z0 : ∀ w, (Go.sizeOf 177).run prog w = .ok 7 w := fun w => by kernel_rfl
    have u0 := run_underlying t0; have u3 := run_underlying t3
    have mixed : prog.follows .mixedOrders = true := mixed_orders
    have hz2 : ¬ ((i : Int) = (n : Int)) := by omega
    have hw1 : IntKind.i64.wrap ((i : Int) + 1) = (i : Int) + 1 := by rw [IntKind.wrap_i64]; omega
    have hb1 : (0 : Int) ≤ (i : Int) + 1 := by omega
    have hin : i ≤ n := by omega
    have htn : ((i : Int) + 1).toNat = i + 1 := by omega
    have hci : ¬ (c = i) := by omega
    have hz3 : (c : Int) < (n : Int) + 1 := by omega
    have hb3 : (i : Int) ≤ (n : Int) := by omega
    have hGi : ¬ (G = i) := by omega
    have hGim : ¬ (G = i + 1) := by omega
    go_enter Proofs.Tryz.func298, Proofs.Tryz.ntmps298
    go_wp2_with (first
      | (at_builtin; refine Lib.wpList_append_run _ rfl _ _ _ _ rfl _ _ rfl rfl _ _ hz ?_)
      | (at_builtin; refine wpList_copy_runJ _ rfl _ _ 39 39 rfl _ _ rfl rfl (hA _) ?_))
    go_region_law_o (refine step_copy_runJ rfl _ _ 39 39 rfl (.slice (some ⟨N, (i + 1) * 7, none⟩) (n + 1 - (i + 1)) (G - (i + 1))) (.slice (some ⟨B, off + i * 7, none⟩) (n - i) (c - i)) (by simp [Act.eval, Act.put]) (by simp [Act.eval, Act.put]) (hB (G - (i + 1)) (c - i)) ?_)
    go_wp2
    go_ret
    exact ⟨rfl, rfl⟩
  shift B off n c i X vo vc w w1 w2 hi hroom h63 hap hA hB := by
    have t0 : prog.underlying 39 = some (.slice 177) := by kernel_rfl
    have t3 : prog.underlying 3 = some (.int .i64) := by kernel_rfl
    have z0 : ∀ w, (Go.sizeOf 177).run prog w = .ok 7 w := fun w => by kernel_rfl
    have u0 := run_underlying t0; have u3 := run_underlying t3
    have mixed : prog.follows .mixedOrders = true := mixed_orders
    have hz2 : ¬ ((i : Int) = (n : Int)) := by omega
    have hw1 : IntKind.i64.wrap ((i : Int) + 1) = (i : Int) + 1 := by rw [IntKind.wrap_i64]; omega
    have hb1 : (0 : Int) ≤ (i : Int) + 1 := by omega
    have hin : i ≤ n := by omega
    have htn : ((i : Int) + 1).toNat = i + 1 := by omega
    have hci : ¬ (c = i) := by omega
    have hov := fun lb cb => over_apart (P := prog) (fo := 329) (tb := 4) (e := 177) (size := 7) Proofs.Tryz.func329 (by kernel_rfl) (by kernel_rfl) (by kernel_rfl) (by kernel_rfl) t0 z0 hap vo (off + (i + 1) * 7) vc lb cb
    have hb2 : ¬ (c = i + 1) := by omega
    have hb3 : (i : Int) ≤ (n : Int) + 1 := by omega
    go_enter Proofs.Tryz.func298, Proofs.Tryz.ntmps298
    go_wp2_with (simp only [hov])
    go_region_law_o (refine step_copy_runJ rfl _ _ 39 39 rfl (.slice (some ⟨B, off + (i + 1) * 7, none⟩) (n - i) (c - (i + 1))) (.slice (some ⟨B, off + i * 7, none⟩) (n + 1 - i) (c - i)) (by simp [Act.eval, Act.put]) (by simp [Act.eval, Act.put]) (hA _ _) ?_)
    go_wp2_with (at_builtin; refine wpList_copy_runJ _ rfl _ _ 39 39 rfl _ _ rfl rfl (hB _) ?_)
    go_ret
    exact ⟨rfl, rfl⟩
def R71q : Nat × Entry := (298, insE y25q 56)
theorem F71q : FnOK prog R71q := fn_ins (e := 177) (fn := f298) iw71q
def I72_0q : Spec := ⟨[(0, .c (.dat true y25q)), (3, .c (.lit (.ptr 1001000 0))), (6, .c (.int .i64))], [.box true cs10q], []⟩
def X0_72_0q : Spec := ⟨[(0, .c (.dat true y25q)), (3, .c (.lit (.ptr 1001000 0))), (6, .c (.int .i64))], [.box true cs10q], []⟩
def c72_0q (f : row_Put_L0T) (d : I72_0q.den) : Option row_Put_L0X := f d.1.1.1 d.1.2.2.1.1 (g0_7 d.2.1)
def L72_0q : LoopSum := ⟨[I72_0q], [(.exit 1, X0_72_0q)], row_Put_L0X, fun k d => c72_0q (row_Put_L0 k k) d, fun b x _ K => K (.exit 1) (stOf b X0_72_0q (((x.1, ()), (), (x.2.1, ()), ()), ((f0_7 x.2.2 ()), ())))⟩
noncomputable def E72q : Env := ⟨prog, fun _ => false, sumsOf [R65q, R69q, R70q, R71q]⟩
def A72q : Notes := ⟨[], [(6, L72_0q)], [], true⟩
theorem B72q : EnvB E72q := env_n (l := [R65q, R69q, R70q, R71q]) mixed_orders ⟨F65q, F69q, F70q, F71q, trivial⟩
theorem lk72_0q : LoopOK prog 1000 0 40 (loopAt (bodyOf f259) 0) L72_0q := lp (A := A72q) L72_0q (fun d => (d.1.1.1, d.1.2.2.1.1, (g0_7 d.2.1))) c72_0q row_Put_L0 row_Put_L0b B72q loops0
def R72q : Nat × Entry := entA 259 [.c (.dat true y25q), .agg pc36q] (.tup [(false, [.fro y25q]), (false, rc41q)]) (fun k d => row_Put k d.1 (g1_7 d)) (fun x => (x.1, x.2, ()))
theorem F72q : FnOK prog R72q := fA (rs := .tup [(false, [.fro y25q]), (false, rc41q)]) f259 A72q (fun d => (d.1, d.2.1)) B72q (loops1 lk72_0q)
def R73q : Nat × Entry := entX 205 [.ptr true xc63q, .agg [.int .i64, .int .i64, .int .i64, .int .i64, .int .i64, .int .i64]] (.c (.int .i64)) [rc44q] 0 (fun k d => core_desk_pays k (g0_18 d) (g18_6 d)) (fun x => (x.1, (f0_18 x.2 ())))
theorem F73q : FnOK prog R73q := fX (rs := .c (.int .i64)) (os := [rc44q]) (ns := 0) f205 ⟨[], [], [], true⟩ 1 (fun d => (d.1, (g1_18 d))) (env_n (l := [R51q, R55q, R62q, R72q]) mixed_orders ⟨F51q, F55q, F62q, F72q, trivial⟩) loops0
def R74q : Nat × Entry := entA 260 [.ptr pc32q, .c (.int .i64)] (.tup [(true, rc46q), (false, rc41q)]) (fun k d => core_desk_mine k (g0_18 d) d.2.2.2.2.2.2.2.2.2.2.2.2.2.2.2.2.2.2.1) (fun x => (f0_7 x.1 (x.2, ())))
theorem F74q : FnOK prog R74q := fA (rs := .tup [(true, rc46q), (false, rc41q)]) f260 ⟨[], [], [], true⟩ (fun d => ((g0_7 d), d.2.2.2.2.2.2.2.1)) (env_n (l := [R65q]) mixed_orders ⟨F65q, trivial⟩) loops0
def R75q : Nat × Entry := entX 300 [.c (.own y25q), .c (.p (.int .i64)), .c (.p (.int .i64))] (.c (.own y25q)) [] 0 (fun k d => slices_Delete_Pay k d.1 d.2.1 d.2.2.1) (fun x => (x, ()))
theorem F75q : FnOK prog R75q := fX (rs := .c (.own y25q)) (os := []) (ns := 0) f300 ⟨[], [], [], false⟩ 0 (fun d => d.1) (env_n (l := []) mixed_orders trivial) loops0
def R76q : Nat × Entry := entA 261 [.c (.dat true y25q), .c (.int .i64)] (.tup [(false, [.fro y25q]), (true, rc46q), (false, rc41q)]) (fun k d => row_Drop k d.1 d.2.1) (fun x => (f0_9 x ()))
theorem F76q : FnOK prog R76q := fA (rs := .tup [(false, [.fro y25q]), (true, rc46q), (false, rc41q)]) f261 ⟨[], [], [], false⟩ (fun d => (g0_9 d)) (env_n (l := [R65q, R70q, R75q]) mixed_orders ⟨F65q, F70q, F75q, trivial⟩) loops0
def R77q : Nat × Entry := entX 135 [.ptr true xc63q, .c (.p (.int .i64)), .c (.p (.dat false (.int .i64)))] (.tup []) [rc44q] 0 (fun k d => core_desk_tells_v3 k (g0_18 d) d.2.2.2.2.2.2.2.2.2.2.2.2.2.2.2.2.2.2.1 d.2.2.2.2.2.2.2.2.2.2.2.2.2.2.2.2.2.2.2.1) (fun x => (f0_18 x ()))
theorem F77q : FnOK prog R77q := fX (rs := .tup []) (os := [rc44q]) (ns := 0) f135 ⟨[], [], [], true⟩ 1 (fun d => (g0_18 d)) (env_n (l := []) mixed_orders trivial) loops0
def R78q : Nat × Entry := entA 263 [.c (.dat true y25q), .c (.int .i64), .c (.int .i64)] (.tup [(false, [.fro y25q]), (false, rc41q)]) (fun k d => row_Class k d.1 d.2.1 d.2.2.1) (fun x => (x.1, x.2, ()))
theorem F78q : FnOK prog R78q := fA (rs := .tup [(false, [.fro y25q]), (false, rc41q)]) f263 ⟨[], [], [], true⟩ (fun d => (d.1, d.2.1)) (env_n (l := [R76q, R72q]) mixed_orders ⟨F76q, F72q, trivial⟩) loops0
def R79q : Nat × Entry := entA 261 [.c (.dat false y25q), .c (.int .i64)] (.tup [(false, [.own y25q]), (true, rc46q), (false, rc41q)]) (fun k d => row_Drop_own k d.1 d.2.1) (fun x => (f0_9 x ()))
theorem F79q : FnOK prog R79q := fA (rs := .tup [(false, [.own y25q]), (true, rc46q), (false, rc41q)]) f261 ⟨[], [], [], false⟩ (fun d => (g0_9 d)) (env_n (l := [R65q, R70q, R75q]) mixed_orders ⟨F65q, F70q, F75q, trivial⟩) loops0
def I80_0q : Spec := ⟨[(6, .c (.lit (.osl 1001000 none))), (7, .c (.lit (.ptr 1001001 0))), (9, .c (.int .i64))], [.arr true y25q, .box true cs10q], []⟩
def X0_80_0q : Spec := ⟨[(6, .c (.lit (.osl 1001000 none))), (7, .c (.lit (.ptr 1001001 0))), (9, .c (.int .i64))], [.arr true y25q, .box true cs10q], []⟩
def c80_0q (f : row_Front_L0T) (d : I80_0q.den) : Option row_Front_L0X := f d.1.2.2.1.1 d.2.1 (g0_7 d.2.2.1)
def L80_0q : LoopSum := ⟨[I80_0q], [(.exit 0, X0_80_0q)], row_Front_L0X, fun k d => c80_0q (row_Front_L0 k k) d, fun b x _ K => K (.exit 0) (stOf b X0_80_0q (((), (), (x.1, ()), ()), (x.2.1, (f0_7 x.2.2 ()), ())))⟩
noncomputable def E80q : Env := ⟨prog, fun _ => false, sumsOf [R79q, R69q, R71q]⟩
def A80q : Notes := ⟨[], [(5, L80_0q)], [], true⟩
theorem B80q : EnvB E80q := env_n (l := [R79q, R69q, R71q]) mixed_orders ⟨F79q, F69q, F71q, trivial⟩
theorem lk80_0q : LoopOK prog 1000 0 41 (loopAt (bodyOf f264) 0) L80_0q := lp (A := A80q) L80_0q (fun d => (d.1.2.2.1.1, d.2.1, (g0_7 d.2.2.1))) c80_0q row_Front_L0 row_Front_L0b B80q loops0
def R80q : Nat × Entry := entA 264 [.c (.dat true y25q), .c (.int .i64)] (.tup [(false, [.fro y25q]), (false, rc41q)]) (fun k d => row_Front k d.1 d.2.1) (fun x => (x.1, x.2, ()))
theorem F80q : FnOK prog R80q := fA (rs := .tup [(false, [.fro y25q]), (false, rc41q)]) f264 A80q (fun d => (d.1, d.2.1)) B80q (loops1 lk80_0q)
def R81q : Nat × Entry := entA 265 [.c (.dat true y25q), .c (.int .i64)] (.tup [(false, [.fro y25q]), (false, rc41q)]) (fun k d => row_Back k d.1 d.2.1) (fun x => (x.1, x.2, ()))
theorem F81q : FnOK prog R81q := fA (rs := .tup [(false, [.fro y25q]), (false, rc41q)]) f265 ⟨[], [], [], true⟩ (fun d => (d.1, d.2.1)) (env_n (l := [R76q, R72q]) mixed_orders ⟨F76q, F72q, trivial⟩) loops0
def R82q : Nat × Entry := entX 206 [.ptr true xc63q, .agg pc36q] (.c (.int .i64)) [rc44q] 0 (fun k d => core_desk_waits k (g0_18 d) (g18_7 d)) (fun x => (x.1, (f0_18 x.2 ())))
theorem F82q : FnOK prog R82q := fX (rs := .c (.int .i64)) (os := [rc44q]) (ns := 0) f206 ⟨[], [], [], true⟩ 1 (fun d => (d.1, (g1_18 d))) (env_n (l := [R74q, R76q, R77q, R51q, R54q, R78q, R80q, R81q]) mixed_orders ⟨F74q, F76q, F77q, F51q, F54q, F78q, F80q, F81q, trivial⟩) loops0
def R83q : Nat × Entry := entC 301 false y14q (.own y14q) slices_Clone_Acct
theorem F83q : FnOK prog R83q := fC f301 ⟨[], [], [], false⟩ (env_n (l := []) mixed_orders trivial) loops0
def R84q : Nat × Entry := entC 269 true (.sl (.int .i64)) (.jun) slices_Clone_Rowint64
theorem F84q : FnOK prog R84q := fC f269 ⟨[], [], [], false⟩ (env_n (l := []) mixed_orders trivial) loops0
def I85_0q : Spec := ⟨[(3, .c (.lit (.osl 1001000 none))), (8, .c (.dat true (.sl (.int .i64)))), (9, .c (.int .i64)), (10, .c (.int .i64))], [.pmat], []⟩
def X0_85_0q : Spec := ⟨[(3, .c (.lit (.osl 1001000 none)))], [.pmat], []⟩
def c85_0q (f : lim_copied_L0T) (d : I85_0q.den) : Option ((List (List Int)) × Nat) := f d.1.2.1.1 d.1.2.2.1.1 d.1.2.2.2.1.1 d.2.1.1 d.2.1.2
def L85_0q : LoopSum := ⟨[I85_0q], [(.exit 0, X0_85_0q)], ((List (List Int)) × Nat), fun k d => c85_0q (lim_copied_L0 k k) d, fun b x _ K => K (.exit 0) (stOf b X0_85_0q (((), ()), ((x.1, x.2), ())))⟩
noncomputable def E85q : Env := ⟨prog, fun _ => false, sumsOf [R84q, R60q]⟩
def A85q : Notes := ⟨[], [(3, L85_0q)], [], false⟩
theorem B85q : EnvB E85q := env_n (l := [R84q, R60q]) mixed_orders ⟨F84q, F60q, trivial⟩
theorem lk85_0q : LoopOK prog 1000 0 22 (loopAt (bodyOf f302) 0) L85_0q := lp (A := A85q) L85_0q (fun d => d.2.1) c85_0q lim_copied_L0 lim_copied_L0b B85q loops0
def R85q : Nat × Entry := entA 302 [.c (.dat true (.sl (.int .i64)))] (.c (.mat)) (fun k d => lim_copied k d.1) (fun x => (x, ()))
theorem F85q : FnOK prog R85q := fA (rs := .c (.mat)) f302 A85q (fun d => d.1) B85q (loops1 lk85_0q)
def R86q : Nat × Entry := entA 266 [.agg [.dat false y14q, .dat true (.sl (.int .i64)), .dat false (.int .i64), .dat true (.sl (.int .i64))]] (.agg [.own y14q, .mat, .own (.int .i64), .mat]) (fun k d => (u0_4 (lim_Copy k) d)) (fun x => (f0_4 x ()))
theorem F86q : FnOK prog R86q := fA (rs := .agg [.own y14q, .mat, .own (.int .i64), .mat]) f266 ⟨[], [], [], false⟩ (fun d => (g0_4 d)) (env_n (l := [R83q, R85q, R60q]) mixed_orders ⟨F83q, F85q, F60q, trivial⟩) loops0
def R87q : Nat × Entry := entA 267 [.ptr pc32q, .c (.int .i64)] (.c (.bool)) (fun k d => core_desk_isOther k (g0_18 d) d.2.2.2.2.2.2.2.2.2.2.2.2.2.2.2.2.2.2.1) (fun x => (x, ()))
theorem F87q : FnOK prog R87q := fA (rs := .c (.bool)) f267 ⟨[], [], [], true⟩ (fun d => d.1) (env_n (l := [R51q]) mixed_orders ⟨F51q, trivial⟩) loops0
def R88q : Nat × Entry := entX 207 [.ptr true xc63q, .agg pc36q] (.c (.int .i64)) [rc44q] 0 (fun k d => core_desk_limits k (g0_18 d) (g18_7 d)) (fun x => (x.1, (f0_18 x.2 ())))
theorem F88q : FnOK prog R88q := fX (rs := .c (.int .i64)) (os := [rc44q]) (ns := 0) f207 ⟨[], [], [], true⟩ 1 (fun d => (d.1, (g1_18 d))) (env_n (l := [R86q, R87q, R51q]) mixed_orders ⟨F86q, F87q, F51q, trivial⟩) loops0
def R89q : Nat × Entry := entA 268 [.ptr pc32q, .c (.int .i64)] (.c (.bool)) (fun k d => core_desk_isAsset k (g0_18 d) d.2.2.2.2.2.2.2.2.2.2.2.2.2.2.2.2.2.2.1) (fun x => (x, ()))
theorem F89q : FnOK prog R89q := fA (rs := .c (.bool)) f268 ⟨[], [], [], true⟩ (fun d => d.1) (env_n (l := [R51q]) mixed_orders ⟨F51q, trivial⟩) loops0
def R90q : Nat × Entry := entC 269 true (.sl (.int .i64)) (.own (.sl (.int .i64))) slices_Clone_Rowint64_v2
theorem F90q : FnOK prog R90q := fC f269 ⟨[], [], [], false⟩ (env_n (l := []) mixed_orders trivial) loops0
def R91q : Nat × Entry := entA 270 [.c (.dat false (.int .i64)), .c (.int .i64), .c (.int .i64)] (.c (.own (.int .i64))) (fun k d => pool_Set k d.1 d.2.1 d.2.2.1) (fun x => (x, ()))
theorem F91q : FnOK prog R91q := fA (rs := .c (.own (.int .i64))) f270 ⟨[], [], [], true⟩ (fun d => d.1) (env_n (l := [R60q]) mixed_orders ⟨F60q, trivial⟩) loops0
def R92q : Nat × Entry := entA 288 [.c (.int .i64)] (.c (.bool)) (fun k d => cash_isCut k d.1) (fun x => (x, ()))
theorem F92q : FnOK prog R92q := fA (rs := .c (.bool)) f288 ⟨[], [], [], true⟩ (fun d => d.1) (env_n (l := []) mixed_orders trivial) loops0
def R93q : Nat × Entry := entA 289 [.c (.int .u64), .c (.int .u64)] (.tup [(false, [.int .u64]), (false, [.int .u64])]) (fun k d => math_bits_Mul64 k d.1 d.2.1) (fun x => (x.1, x.2, ()))
theorem F93q : FnOK prog R93q := fA (rs := .tup [(false, [.int .u64]), (false, [.int .u64])]) f289 ⟨[], [], [], true⟩ (fun d => (d.1, d.2.1)) (env_n (l := []) mixed_orders trivial) loops0
def R94q : Nat × Entry := entA 346 [.c (.int .u64)] (.c (.int .i64)) (fun k d => math_bits_Len64 k d.1) (fun x => (x, ()))
theorem F94q : FnOK prog R94q := fA (rs := .c (.int .i64)) f346 ⟨[], [], [], true⟩ (fun d => d.1) (env_n (l := []) mixed_orders trivial) loops0
def R95q : Nat × Entry := entA 323 [.c (.int .u64)] (.c (.int .i64)) (fun k d => math_bits_LeadingZeros64 k d.1) (fun x => (x, ()))
theorem F95q : FnOK prog R95q := fA (rs := .c (.int .i64)) f323 ⟨[], [], [], true⟩ (fun d => d.1) (env_n (l := [R94q]) mixed_orders ⟨F94q, trivial⟩) loops0
def I96_0q : Spec := ⟨[(2, .c (.int .u64)), (8, .c (.int .u64)), (9, .c (.int .u64)), (10, .c (.int .u64)), (11, .c (.int .u64)), (13, .c (.int .u64)), (14, .c (.int .u64)), (15, .c (.int .u64)), (16, .c (.int .u64))], [], []⟩
def X0_96_0q : Spec := ⟨[(2, .c (.int .u64)), (8, .c (.int .u64)), (9, .c (.int .u64)), (10, .c (.int .u64)), (11, .c (.int .u64)), (13, .c (.int .u64)), (14, .c (.int .u64)), (15, .c (.int .u64))], [], []⟩
def c96_0q (f : math_bits_Div64_L0T) (d : I96_0q.den) : Option math_bits_Div64_L0X := f d.1.1.1 d.1.2.1.1 d.1.2.2.1.1 d.1.2.2.2.1.1 d.1.2.2.2.2.1.1 d.1.2.2.2.2.2.1.1 d.1.2.2.2.2.2.2.1.1 d.1.2.2.2.2.2.2.2.1.1 d.1.2.2.2.2.2.2.2.2.1.1
def L96_0q : LoopSum := ⟨[I96_0q], [(.exit 0, X0_96_0q)], math_bits_Div64_L0X, fun k d => c96_0q (math_bits_Div64_L0 k k) d, fun b x _ K => K (.exit 0) (stOf b X0_96_0q (((x.1, ()), (x.2.1, ()), (x.2.2.1, ()), (x.2.2.2.1, ()), (x.2.2.2.2.1, ()), (x.2.2.2.2.2.1, ()), (x.2.2.2.2.2.2.1, ()), (x.2.2.2.2.2.2.2, ()), ()), ()))⟩
def I96_1q : Spec := ⟨[(2, .c (.int .u64)), (8, .c (.int .u64)), (9, .c (.int .u64)), (10, .c (.int .u64)), (14, .c (.int .u64)), (15, .c (.int .u64)), (16, .c (.int .u64)), (17, .c (.int .u64)), (18, .c (.int .u64))], [], []⟩
def X0_96_1q : Spec := ⟨[(2, .c (.int .u64)), (8, .c (.int .u64)), (14, .c (.int .u64)), (15, .c (.int .u64)), (17, .c (.int .u64)), (18, .c (.int .u64))], [], []⟩
def c96_1q (f : math_bits_Div64_L1T) (d : I96_1q.den) : Option math_bits_Div64_L1X := f d.1.1.1 d.1.2.1.1 d.1.2.2.1.1 d.1.2.2.2.1.1 d.1.2.2.2.2.1.1 d.1.2.2.2.2.2.1.1 d.1.2.2.2.2.2.2.1.1 d.1.2.2.2.2.2.2.2.1.1 d.1.2.2.2.2.2.2.2.2.1.1
def L96_1q : LoopSum := ⟨[I96_1q], [(.exit 2, X0_96_1q)], math_bits_Div64_L1X, fun k d => c96_1q (math_bits_Div64_L1 k k) d, fun b x _ K => K (.exit 2) (stOf b X0_96_1q (((x.1, ()), (x.2.1, ()), (x.2.2.1, ()), (x.2.2.2.1, ()), (x.2.2.2.2.1, ()), (x.2.2.2.2.2, ()), ()), ()))⟩
noncomputable def E96q : Env := ⟨prog, fun _ => false, sumsOf [R95q]⟩
def A96q : Notes := ⟨[], [(17, L96_0q), (24, L96_1q)], [], true⟩
theorem B96q : EnvB E96q := env_n (l := [R95q]) mixed_orders ⟨F95q, trivial⟩
theorem lk96_0q : LoopOK prog 1000 0 135 (loopAt (bodyOf f290) 0) L96_0q := lp (A := A96q) L96_0q (fun d => (d.1.1.1, d.1.2.1.1, d.1.2.2.1.1, d.1.2.2.2.1.1, d.1.2.2.2.2.1.1, d.1.2.2.2.2.2.1.1, d.1.2.2.2.2.2.2.1.1, d.1.2.2.2.2.2.2.2.1.1)) c96_0q math_bits_Div64_L0 math_bits_Div64_L0b B96q loops0
theorem lk96_1q : LoopOK prog 1000 0 135 (loopAt (bodyOf f290) 1) L96_1q := lp (A := A96q) L96_1q (fun d => (d.1.1.1, d.1.2.1.1, d.1.2.2.1.1, d.1.2.2.2.1.1, d.1.2.2.2.2.1.1, d.1.2.2.2.2.2.1.1)) c96_1q math_bits_Div64_L1 math_bits_Div64_L1b B96q loops0
def R96q : Nat × Entry := entA 290 [.c (.int .u64), .c (.int .u64), .c (.int .u64)] (.tup [(false, [.int .u64]), (false, [.int .u64])]) (fun k d => math_bits_Div64 k d.1 d.2.1 d.2.2.1) (fun x => (x.1, x.2, ()))
theorem F96q : FnOK prog R96q := fA (rs := .tup [(false, [.int .u64]), (false, [.int .u64])]) f290 A96q (fun d => (d.1, d.2.1)) B96q (loopsOK_of (n := 2) (by kernel_rfl) fun i hi => match i, hi with | 0, _ => ⟨L96_0q, by kernel_rfl, lk96_0q⟩ | 1, _ => ⟨L96_1q, by kernel_rfl, lk96_1q⟩ | i + 2, hi => absurd hi (by omega))
def R97q : Nat × Entry := (172, add64E)
theorem F97q : FnOK prog R97q := fn_add64 (fn := f172)
def R98q : Nat × Entry := entA 251 [.c (.int .i64), .c (.int .i64), .c (.int .i64)] (.tup [(false, rc41q), (false, [.bool])]) (fun k d => cash_Worth k d.1 d.2.1 d.2.2.1) (fun x => (x.1, x.2, ()))
theorem F98q : FnOK prog R98q := fA (rs := .tup [(false, rc41q), (false, [.bool])]) f251 ⟨[], [], [], true⟩ (fun d => (d.1, d.2.1)) (env_n (l := [R92q, R93q, R96q, R97q]) mixed_orders ⟨F92q, F93q, F96q, F97q, trivial⟩) loops0
def I99_0q : Spec := ⟨[(4, .c (.int .i64)), (5, .c (.int .u64)), (9, .c (.dat false (.int .i64))), (10, .c (.int .i64)), (11, .c (.int .i64))], [], []⟩
def X0_99_0q : Spec := ⟨[(4, .c (.int .i64)), (5, .c (.int .u64))], [], []⟩
def c99_0q (f : cash_Sum_L0T) (d : I99_0q.den) : Option K11q := f d.1.1.1 d.1.2.1.1 d.1.2.2.1.1 d.1.2.2.2.1.1 d.1.2.2.2.2.1.1
def L99_0q : LoopSum := ⟨[I99_0q], [(.exit 0, X0_99_0q)], K11q, fun k d => c99_0q (cash_Sum_L0 k k) d, fun b x _ K => K (.exit 0) (stOf b X0_99_0q (((x.1, ()), (x.2, ()), ()), ()))⟩
noncomputable def E99q : Env := ⟨prog, fun _ => false, sumsOf [R97q]⟩
def A99q : Notes := ⟨[], [(4, L99_0q)], [], false⟩
theorem B99q : EnvB E99q := env_n (l := [R97q]) mixed_orders ⟨F97q, trivial⟩
theorem lk99_0q : LoopOK prog 1000 0 37 (loopAt (bodyOf f112) 0) L99_0q := lp (A := A99q) L99_0q (fun d => (d.1.1.1, d.1.2.1.1)) c99_0q cash_Sum_L0 cash_Sum_L0b B99q loops0
def R99q : Nat × Entry := entA 112 [.c (.dat false (.int .i64))] (.tup [(false, rc41q), (false, [.bool])]) (fun k d => cash_Sum k d.1) (fun x => (x.1, x.2, ()))
theorem F99q : FnOK prog R99q := fA (rs := .tup [(false, rc41q), (false, [.bool])]) f112 A99q (fun d => (d.1, d.2.1)) B99q (loops1 lk99_0q)
def I100_0q : Spec := ⟨[(1, .c (.dat false (.int .i64))), (2, .c (.dat false (.int .i64))), (8, .c (.lit (.osl 1001000 none))), (25, .c (.dat false y1q)), (26, .c (.int .i64)), (27, .c (.int .i64))], [.arr true (.int .i64)], [(8, none, (.int .i64), false)]⟩
def X0_100_0q : Spec := ⟨[(8, .c (.lit (.osl 1001000 none)))], [.arr true (.int .i64)], []⟩
def X1_100_0q : Spec := ⟨[(6, .c (.int .i64)), (7, .c (.bool))], [], []⟩
def c100_0q (f : pool_Value_L0T) (d : I100_0q.den) : Option ((List Int) ⊕ (Int × Bool)) := f d.1.1.1 d.1.2.1.1 d.1.2.2.2.1.1 d.1.2.2.2.2.1.1 d.1.2.2.2.2.2.1.1 d.2.1
def L100_0q : LoopSum := ⟨[I100_0q], [(.exit 0, X0_100_0q), (.ret, X1_100_0q)], ((List Int) ⊕ (Int × Bool)), fun k d => c100_0q (pool_Value_L0 k k) d, fun b x _ K => match x with | .inl x => K (.exit 0) (stOf b X0_100_0q (((), ()), (x, ()))) | .inr x => K .ret (stOf b X1_100_0q (((x.1, ()), (x.2, ()), ()), ()))⟩
noncomputable def E100q : Env := ⟨prog, fun _ => false, sumsOf [R98q, R99q]⟩
def A100q : Notes := ⟨[], [(5, L100_0q)], [], true⟩
theorem B100q : EnvB E100q := env_n (l := [R98q, R99q]) mixed_orders ⟨F98q, F99q, trivial⟩
theorem lk100_0q : LoopOK prog 1000 0 57 (loopAt (bodyOf f193) 0) L100_0q := lp (A := A100q) L100_0q (fun d => match d with | .inl d => .inl d.2.1 | .inr d => .inr (d.1.1.1, d.1.2.1.1)) c100_0q pool_Value_L0 pool_Value_L0b B100q loops0
def R100q : Nat × Entry := entA 193 [.c (.dat false y1q), .c (.dat false (.int .i64)), .c (.dat false (.int .i64))] (.tup [(false, rc41q), (false, [.bool])]) (fun k d => pool_Value k d.1 d.2.1 d.2.2.1) (fun x => (x.1, x.2, ()))
theorem F100q : FnOK prog R100q := fA (rs := .tup [(false, rc41q), (false, [.bool])]) f193 A100q (fun d => (d.1, d.2.1)) B100q (loops1 lk100_0q)
def R101q : Nat × Entry := entX 208 [.ptr true xc63q, .c (.p (.int .i64)), .c (.p (.int .i64))] (.c (.int .i64)) [rc44q] 0 (fun k d => core_desk_holds k (g0_18 d) d.2.2.2.2.2.2.2.2.2.2.2.2.2.2.2.2.2.2.1 d.2.2.2.2.2.2.2.2.2.2.2.2.2.2.2.2.2.2.2.1) (fun x => (x.1, (f0_18 x.2 ())))
theorem F101q : FnOK prog R101q := fX (rs := .c (.int .i64)) (os := [rc44q]) (ns := 0) f208 ⟨[], [], [], true⟩ 1 (fun d => (d.1, (g1_18 d))) (env_n (l := [R89q, R51q, R90q, R91q, R100q, R86q]) mixed_orders ⟨F89q, F51q, F90q, F91q, F100q, F86q, trivial⟩) loops0
def R102q : Nat × Entry := entA 174 [.c (.int .i64), .c (.int .i64)] (.tup [(false, rc41q), (false, [.bool])]) (fun k d => cash_Add k d.1 d.2.1) (fun x => (x.1, x.2, ()))
theorem F102q : FnOK prog R102q := fA (rs := .tup [(false, rc41q), (false, [.bool])]) f174 ⟨[], [], [], false⟩ (fun d => (d.1, d.2.1)) (env_n (l := []) mixed_orders trivial) loops0
def R103q : Nat × Entry := entA 184 [.agg pc35q] (.c (.bool)) (fun k d => acct_Is k d.1 d.2.1 d.2.2.1) (fun x => (x, ()))
theorem F103q : FnOK prog R103q := fA (rs := .c (.bool)) f184 ⟨[], [], [], false⟩ (fun d => d.1) (env_n (l := []) mixed_orders trivial) loops0
def R104q : Nat × Entry := entA 303 [.agg pc35q, .c (.int .i64)] (.tup [(true, rc45q), (false, rc41q)]) (fun k d => acct_moved k (d.1, d.2.1, d.2.2.1) d.2.2.2.1) (fun x => (x.1.1, x.1.2.1, x.1.2.2, x.2, ()))
theorem F104q : FnOK prog R104q := fA (rs := .tup [(true, rc45q), (false, rc41q)]) f303 ⟨[], [], [], true⟩ (fun d => ((d.1, d.2.1, d.2.2.1), d.2.2.2.1)) (env_n (l := [R102q, R103q]) mixed_orders ⟨F102q, F103q, trivial⟩) loops0
def R105q : Nat × Entry := entA 271 [.agg pc35q, .c (.int .i64)] (.tup [(true, rc45q), (false, rc41q)]) (fun k d => acct_In k (d.1, d.2.1, d.2.2.1) d.2.2.2.1) (fun x => (x.1.1, x.1.2.1, x.1.2.2, x.2, ()))
theorem F105q : FnOK prog R105q := fA (rs := .tup [(true, rc45q), (false, rc41q)]) f271 ⟨[], [], [], true⟩ (fun d => ((d.1, d.2.1, d.2.2.1), d.2.2.2.1)) (env_n (l := [R104q]) mixed_orders ⟨F104q, trivial⟩) loops0
def R106q : Nat × Entry := entA 304 [.agg pc35q, .c (.int .i64)] (.c (.int .i64)) (fun k d => (u0_4 (acct_Kept k) d)) (fun x => (x, ()))
theorem F106q : FnOK prog R106q := fA (rs := .c (.int .i64)) f304 ⟨[], [], [], false⟩ (fun d => d.1) (env_n (l := []) mixed_orders trivial) loops0
def R107q : Nat × Entry := entA 272 [.agg pc35q, .c (.int .i64), .c (.int .i64)] (.tup [(true, rc45q), (false, rc41q)]) (fun k d => acct_Out k (d.1, d.2.1, d.2.2.1) d.2.2.2.1 d.2.2.2.2.1) (fun x => (x.1.1, x.1.2.1, x.1.2.2, x.2, ()))
theorem F107q : FnOK prog R107q := fA (rs := .tup [(true, rc45q), (false, rc41q)]) f272 ⟨[], [], [], true⟩ (fun d => ((d.1, d.2.1, d.2.2.1), d.2.2.2.1)) (env_n (l := [R104q, R106q]) mixed_orders ⟨F104q, F106q, trivial⟩) loops0
def R108q : Nat × Entry := entA 273 [.agg pc35q, .c (.int .i64)] (.c (.int .i64)) (fun k d => acct_Room k (d.1, d.2.1, d.2.2.1) d.2.2.2.1) (fun x => (x, ()))
theorem F108q : FnOK prog R108q := fA (rs := .c (.int .i64)) f273 ⟨[], [], [], true⟩ (fun d => d.1) (env_n (l := []) mixed_orders trivial) loops0
def R109q : Nat × Entry := entX 209 [.ptr true xc63q, .c (.p (.int .i64)), .c (.p (.int .i64)), .c (.p (.int .i64))] (.c (.int .i64)) [rc44q] 0 (fun k d => core_desk_moves k (g0_18 d) d.2.2.2.2.2.2.2.2.2.2.2.2.2.2.2.2.2.2.1 d.2.2.2.2.2.2.2.2.2.2.2.2.2.2.2.2.2.2.2.1 d.2.2.2.2.2.2.2.2.2.2.2.2.2.2.2.2.2.2.2.2.1) (fun x => (x.1, (f0_18 x.2 ())))
theorem F109q : FnOK prog R109q := fX (rs := .c (.int .i64)) (os := [rc44q]) (ns := 0) f209 ⟨[], [], [], true⟩ 1 (fun d => (d.1, (g1_18 d))) (env_n (l := [R51q, R105q, R107q, R108q, R86q]) mixed_orders ⟨F51q, F105q, F107q, F108q, F86q, trivial⟩) loops0
def I110_0q : Spec := ⟨[(0, .c (.lit (.ptr 1001000 0))), (7, .c (.lit (.osl 1001002 none))), (8, .c (.lit (.ptr 1001003 0))), (40, .c (.dat true (.sl (.int .i64)))), (41, .c (.int .i64)), (42, .c (.int .i64))], [.box true cs8q, .arr true y26q, .arr true (.int .i64), .box true cs23q, .arr true y14q, .mat, .arr true (.int .i64), .mat], []⟩
def X0_110_0q : Spec := ⟨[(0, .c (.lit (.ptr 1001000 0))), (7, .c (.lit (.osl 1001002 none))), (8, .c (.lit (.ptr 1001003 0)))], [.box true cs8q, .arr true y26q, .arr true (.int .i64), .box true cs23q, .arr true y14q, .mat, .arr true (.int .i64), .mat], []⟩
def X1_110_0q : Spec := ⟨[(0, .c (.lit (.ptr 1001000 0))), (6, .c (.int .i64))], [.box true cs8q, .arr true y26q], []⟩
def c110_0q (f : core_desk_price_L0T) (d : I110_0q.den) : Option core_desk_price_L0X := f d.1.2.2.2.1.1 d.1.2.2.2.2.1.1 d.1.2.2.2.2.2.1.1 (g0_17 d.2.1) d.2.2.1 d.2.2.2.1 d.2.2.2.2.2.1 d.2.2.2.2.2.2.1 d.2.2.2.2.2.2.2.1 d.2.2.2.2.2.2.2.2.1
def L110_0q : LoopSum := ⟨[I110_0q], [(.exit 0, X0_110_0q), (.ret, X1_110_0q)], core_desk_price_L0X, fun k d => c110_0q (core_desk_price_L0 k k) d, fun b x _ K => match x with | .inl x => K (.exit 0) (stOf b X0_110_0q (((), (), (), ()), ((f0_17 x.1 ()), x.2.1, x.2.2.1, (), x.2.2.2.1, x.2.2.2.2.1, x.2.2.2.2.2.1, x.2.2.2.2.2.2, ()))) | .inr x => K .ret (stOf b X1_110_0q (((), (x.1, ()), ()), ((f0_17 x.2.1 ()), x.2.2, ())))⟩
noncomputable def E110q : Env := ⟨prog, fun _ => false, sumsOf [R89q, R51q, R91q, R86q, R100q]⟩
def A110q : Notes := ⟨[], [(6, L110_0q)], [], true⟩
theorem B110q : EnvB E110q := env_n (l := [R89q, R51q, R91q, R86q, R100q]) mixed_orders ⟨F89q, F51q, F91q, F86q, F100q, trivial⟩
theorem lk110_0q : LoopOK prog 1000 1 81 (loopAt (bodyOf f210) 0) L110_0q := lp (A := A110q) L110_0q (fun d => match d with | .inl d => .inl ((g0_17 d.2.1), d.2.2.1, d.2.2.2.1, d.2.2.2.2.2.1, d.2.2.2.2.2.2.1, d.2.2.2.2.2.2.2.1, d.2.2.2.2.2.2.2.2.1) | .inr d => .inr (d.1.2.1.1, (g0_17 d.2.1), d.2.2.1)) c110_0q core_desk_price_L0 core_desk_price_L0b B110q loops0
def R110q : Nat × Entry := entX 210 [.ptr true xc63q, .c (.p (.int .i64)), .c (.p (.int .i64))] (.c (.int .i64)) [rc44q] 0 (fun k d => core_desk_price k (g0_18 d) d.2.2.2.2.2.2.2.2.2.2.2.2.2.2.2.2.2.2.1 d.2.2.2.2.2.2.2.2.2.2.2.2.2.2.2.2.2.2.2.1) (fun x => (x.1, (f0_18 x.2 ())))
theorem F110q : FnOK prog R110q := fX (rs := .c (.int .i64)) (os := [rc44q]) (ns := 0) f210 A110q 1 (fun d => (d.1, (g1_18 d))) B110q (loops1 lk110_0q)
def R111q : Nat × Entry := entX 136 [.ptr true xc63q, .agg pc36q] (.c (.int .i64)) [rc44q] 0 (fun k d => core_desk_does k (g0_18 d) (g18_7 d)) (fun x => (x.1, (f0_18 x.2 ())))
theorem F111q : FnOK prog R111q := fX (rs := .c (.int .i64)) (os := [rc44q]) (ns := 0) f136 ⟨[], [], [], true⟩ 1 (fun d => (d.1, (g1_18 d))) (env_n (l := [R73q, R82q, R88q, R101q, R109q, R110q]) mixed_orders ⟨F73q, F82q, F88q, F101q, F109q, F110q, trivial⟩) loops0
def R112q : Nat × Entry := entA 131 [.agg pc31q, .c (.int .i64)] (.c (.bool)) (fun k d => (u0_6 (day_Closes k) d)) (fun x => (x, ()))
theorem F112q : FnOK prog R112q := fA (rs := .c (.bool)) f131 ⟨[], [], [], false⟩ (fun d => d.1) (env_n (l := []) mixed_orders trivial) loops0
def R113q : Nat × Entry := entA 213 [.c (.int .i64), .c (.int .i64), .c (.dat false (.int .i64))] (.agg rc47q) (fun k d => hour_out k d.1 d.2.1 d.2.2.1) (fun x => (f0_8 x ()))
theorem F113q : FnOK prog R113q := fA (rs := .agg rc47q) f213 ⟨[], [], [], false⟩ (fun d => (g0_8 d)) (env_n (l := []) mixed_orders trivial) loops0
def I114_0q : Spec := ⟨[(1, .c (.lit (.ptr 1001000 0))), (2, .c (.lit (.ptr 1001001 0))), (4, .c (.lit (.osl 1001002 none))), (10, .c (.dat true y25q)), (11, .c (.int .i64)), (12, .c (.int .i64))], [.box true cs6q, .box true cs20q, .arr true y26q], [(4, none, y26q, false)]⟩
def X0_114_0q : Spec := ⟨[(1, .c (.lit (.ptr 1001000 0))), (2, .c (.lit (.ptr 1001001 0))), (4, .c (.lit (.osl 1001002 none)))], [.box true cs6q, .box true cs20q, .arr true y26q], []⟩
def c114_0q (f : hour_ends_L0T) (d : I114_0q.den) : Option hour_ends_L0X := (u0_11 (f d.1.2.2.2.1.1 d.1.2.2.2.2.1.1 d.1.2.2.2.2.2.1.1) d.2.1) d.2.2.1.1 d.2.2.1.2.1 d.2.2.1.2.2.1 d.2.2.2.1
def L114_0q : LoopSum := ⟨[I114_0q], [(.exit 0, X0_114_0q)], hour_ends_L0X, fun k d => c114_0q (hour_ends_L0 k k) d, fun b x _ K => K (.exit 0) (stOf b X0_114_0q (((), (), (), ()), ((j0_11 x ()), (x.2.2.2.2.2.2.2.2.2.2.2.1, x.2.2.2.2.2.2.2.2.2.2.2.2.1, x.2.2.2.2.2.2.2.2.2.2.2.2.2.1, ()), x.2.2.2.2.2.2.2.2.2.2.2.2.2.2, ())))⟩
def I114_1q : Spec := ⟨[(1, .c (.lit (.ptr 1001000 0))), (2, .c (.lit (.ptr 1001001 0))), (4, .c (.lit (.osl 1001002 none))), (28, .c (.dat true y14q)), (29, .c (.int .i64)), (30, .c (.int .i64))], [.box true cs6q, .box true cs20q, .arr true y26q], []⟩
def X0_114_1q : Spec := ⟨[(1, .c (.lit (.ptr 1001000 0))), (2, .c (.lit (.ptr 1001001 0))), (4, .c (.lit (.osl 1001002 none)))], [.box true cs6q, .box true cs20q, .arr true y26q], []⟩
def c114_1q (f : hour_ends_L1T) (d : I114_1q.den) : Option hour_ends_L1X := (u0_11 (f d.1.2.2.2.1.1 d.1.2.2.2.2.1.1 d.1.2.2.2.2.2.1.1) d.2.1) d.2.2.1.1 d.2.2.1.2.1 d.2.2.1.2.2.1 d.2.2.2.1
def L114_1q : LoopSum := ⟨[I114_1q], [(.exit 2, X0_114_1q)], hour_ends_L1X, fun k d => c114_1q (hour_ends_L1 k k) d, fun b x _ K => K (.exit 2) (stOf b X0_114_1q (((), (), (), ()), ((j0_11 x ()), (x.2.2.2.2.2.2.2.2.2.2.2.1, x.2.2.2.2.2.2.2.2.2.2.2.2.1, x.2.2.2.2.2.2.2.2.2.2.2.2.2.1, ()), x.2.2.2.2.2.2.2.2.2.2.2.2.2.2, ())))⟩
noncomputable def E114q : Env := ⟨prog, fun _ => false, sumsOf [R113q]⟩
def A114q : Notes := ⟨[], [(3, L114_0q), (8, L114_1q)], [], false⟩
theorem B114q : EnvB E114q := env_n (l := [R113q]) mixed_orders ⟨F113q, trivial⟩
theorem lk114_0q : LoopOK prog 1000 0 48 (loopAt (bodyOf f211) 0) L114_0q := lp (A := A114q) L114_0q (fun d => (j0_11 d.2.1 (d.2.2.1.1, d.2.2.1.2.1, d.2.2.1.2.2.1, d.2.2.2.1))) c114_0q hour_ends_L0 hour_ends_L0b B114q loops0
theorem lk114_1q : LoopOK prog 1000 0 48 (loopAt (bodyOf f211) 1) L114_1q := lp (A := A114q) L114_1q (fun d => (j0_11 d.2.1 (d.2.2.1.1, d.2.2.1.2.1, d.2.2.1.2.2.1, d.2.2.2.1))) c114_1q hour_ends_L1 hour_ends_L1b B114q loops0
def R114q : Nat × Entry := entA 211 [.agg pc33q] (.tup [(true, rc43q), (false, [.own y26q])]) (fun k d => (u0_11 (hour_ends k) d)) (fun x => (f0_12 x ()))
theorem F114q : FnOK prog R114q := fA (rs := .tup [(true, rc43q), (false, [.own y26q])]) f211 A114q (fun d => (g0_12 d)) B114q (loopsOK_of (n := 2) (by kernel_rfl) fun i hi => match i, hi with | 0, _ => ⟨L114_0q, by kernel_rfl, lk114_0q⟩ | 1, _ => ⟨L114_1q, by kernel_rfl, lk114_1q⟩ | i + 2, hi => absurd hi (by omega))
def R115q : Nat × Entry := entA 212 [.agg pc36q, .c (.int .i64)] (.c (.bool)) (fun k d => (u0_8 (pay_Late k) d)) (fun x => (x, ()))
theorem F115q : FnOK prog R115q := fA (rs := .c (.bool)) f212 ⟨[], [], [], false⟩ (fun d => d.1) (env_n (l := []) mixed_orders trivial) loops0
def R116q : Nat × Entry := entA 214 [.agg pc31q, .c (.int .i64)] (.c (.bool)) (fun k d => (u0_6 (day_Solves k) d)) (fun x => (x, ()))
theorem F116q : FnOK prog R116q := fA (rs := .c (.bool)) f214 ⟨[], [], [], false⟩ (fun d => d.1) (env_n (l := []) mixed_orders trivial) loops0
def R117q : Nat × Entry := entA 337 [.agg pc36q, .c (.int .i64)] (.c (.bool)) (fun k d => (u0_8 (pay_Ready k) d)) (fun x => (x, ()))
theorem F117q : FnOK prog R117q := fA (rs := .c (.bool)) f337 ⟨[], [], [], false⟩ (fun d => d.1) (env_n (l := []) mixed_orders trivial) loops0
def R118q : Nat × Entry := entA 336 [.agg pc36q, .ptr [.int .i64]] (.c (.bool)) (fun k d => (u0_8 (view_Ready_fn1 k) d)) (fun x => (x, ()))
theorem F118q : FnOK prog R118q := fA (rs := .c (.bool)) f336 ⟨[], [], [], false⟩ (fun d => d.1) (env_n (l := [R117q]) mixed_orders ⟨F117q, trivial⟩) loops0
def I119_0q : Spec := ⟨[(1, .c (.lit (.fn 336 [1001000]))), (5, .c (.lit (.osl 1001001 none))), (8, .c (.dat false y25q)), (9, .c (.int .i64)), (10, .c (.int .i64))], [.robox [.int .i64], .arr true y25q], [(5, none, y25q, false)]⟩
def X0_119_0q : Spec := ⟨[(5, .c (.lit (.osl 1001000 none)))], [.arr true y25q], []⟩
def c119_0q (f : view_all__view_Ready_fn1_L0T) (d : I119_0q.den) : Option view_all__view_Ready_fn1_L0X := f d.1.2.2.1.1 d.1.2.2.2.1.1 d.1.2.2.2.2.1.1 d.2.1.1 d.2.2.1
def L119_0q : LoopSum := ⟨[I119_0q], [(.exit 0, X0_119_0q)], view_all__view_Ready_fn1_L0X, fun k d => c119_0q (view_all__view_Ready_fn1_L0 k k) d, fun b x _ K => K (.exit 0) (stOf b X0_119_0q (((), ()), (x, ())))⟩
noncomputable def E119q : Env := ⟨prog, fun _ => false, sumsOf [R118q]⟩
def A119q : Notes := ⟨[], [(3, L119_0q)], [], false⟩
theorem B119q : EnvB E119q := env_n (l := [R118q]) mixed_orders ⟨F118q, trivial⟩
theorem lk119_0q : LoopOK prog 1000 0 23 (loopAt (bodyOf f255) 0) L119_0q := lp (A := A119q) L119_0q (fun d => d.2.1) c119_0q view_all__view_Ready_fn1_L0 view_all__view_Ready_fn1_L0b B119q loops0
def R119q : Nat × Entry := entA 255 [.c (.dat false y25q), .fn 336 [[.int .i64]]] (.c (.own y25q)) (fun k d => view_all__view_Ready_fn1 k d.1 d.2.1) (fun x => (x, ()))
theorem F119q : FnOK prog R119q := fA (rs := .c (.own y25q)) f255 A119q (fun d => d.1) B119q (loops1 lk119_0q)
def R120q : Nat × Entry := entA 309 [.c (.dat false y25q), .c (.int .i64)] (.c (.own y25q)) (fun k d => view_Ready k d.1 d.2.1) (fun x => (x, ()))
theorem F120q : FnOK prog R120q := fA (rs := .c (.own y25q)) f309 ⟨[], [], [], false⟩ (fun d => d.1) (env_n (l := [R119q]) mixed_orders ⟨F119q, trivial⟩) loops0
def R121q : Nat × Entry := entA 358 [.agg pc36q, .ptr pc36q] (.c (.bool)) (fun k d => (u0_14 (view_May_fn1_fn1 k) d)) (fun x => (x, ()))
theorem F121q : FnOK prog R121q := fA (rs := .c (.bool)) f358 ⟨[], [], [], false⟩ (fun d => d.1) (env_n (l := []) mixed_orders trivial) loops0
def I122_0q : Spec := ⟨[(0, .c (.dat false y25q)), (1, .c (.lit (.fn 358 [1001000]))), (7, .c (.int .i64)), (8, .c (.int .i64))], [.robox cs10q], []⟩
def X0_122_0q : Spec := ⟨[], [], []⟩
def X1_122_0q : Spec := ⟨[(4, .c (.int .i64))], [], []⟩
def c122_0q (f : slices_IndexFunc_Pay__view_May_fn1_fn1_L0T) (d : I122_0q.den) : Option (Unit ⊕ Int) := (u0_7 (f d.1.1.1 d.1.2.2.1.1 d.1.2.2.2.1.1) d.2.1)
def L122_0q : LoopSum := ⟨[I122_0q], [(.exit 0, X0_122_0q), (.ret, X1_122_0q)], (Unit ⊕ Int), fun k d => c122_0q (slices_IndexFunc_Pay__view_May_fn1_fn1_L0 k k) d, fun b x _ K => match x with | .inl x => K (.exit 0) (stOf b X0_122_0q ((), ())) | .inr x => K .ret (stOf b X1_122_0q (((x, ()), ()), ()))⟩
noncomputable def E122q : Env := ⟨prog, fun _ => false, sumsOf [R121q]⟩
def A122q : Notes := ⟨[], [(2, L122_0q)], [], false⟩
theorem B122q : EnvB E122q := env_n (l := [R121q]) mixed_orders ⟨F121q, trivial⟩
theorem lk122_0q : LoopOK prog 1000 0 19 (loopAt (bodyOf f217) 0) L122_0q := lp (A := A122q) L122_0q (fun d => match d with | .inl d => .inl () | .inr d => .inr d.1.1.1) c122_0q slices_IndexFunc_Pay__view_May_fn1_fn1_L0 slices_IndexFunc_Pay__view_May_fn1_fn1_L0b B122q loops0
def R122q : Nat × Entry := entA 217 [.c (.dat false y25q), .fn 358 [pc36q]] (.c (.int .i64)) (fun k d => (u0_8 (slices_IndexFunc_Pay__view_May_fn1_fn1 k) d)) (fun x => (x, ()))
theorem F122q : FnOK prog R122q := fA (rs := .c (.int .i64)) f217 A122q (fun d => d.1) B122q (loops1 lk122_0q)
def R123q : Nat × Entry := entA 200 [.c (.dat false y25q), .fn 358 [pc36q]] (.c (.bool)) (fun k d => (u0_8 (slices_ContainsFunc_Pay__view_May_fn1_fn1 k) d)) (fun x => (x, ()))
theorem F123q : FnOK prog R123q := fA (rs := .c (.bool)) f200 ⟨[], [], [], false⟩ (fun d => d.1) (env_n (l := [R122q]) mixed_orders ⟨F122q, trivial⟩) loops0
def R124q : Nat × Entry := entX 357 [.agg pc36q, .ptr true [.map], .ptr false [.p (.dat false y25q)]] (.c (.bool)) [[.map]] 0 (fun k d => (u0_9 (view_May_fn1 k) d)) (fun x => (x.1, x.2, ()))
theorem F124q : FnOK prog R124q := fX (rs := .c (.bool)) (os := [[.map]]) (ns := 0) f357 ⟨[], [], [], false⟩ 3 (fun d => (d.1, d.2.1)) (env_n (l := [R123q]) mixed_orders ⟨F123q, trivial⟩) loops0
def I125_0q : Spec := ⟨[(1, .c (.lit (.fn 357 [1001000, 1001002]))), (5, .c (.lit (.osl 1001003 none))), (8, .c (.dat false y25q)), (9, .c (.int .i64)), (10, .c (.int .i64))], [.box true [.lit (.map 1001001)], .imap, .robox [.dat false y25q], .arr true y25q], [(5, none, y25q, false)]⟩
def X0_125_0q : Spec := ⟨[(1, .c (.lit (.fn 357 [1001000, 1001002]))), (5, .c (.lit (.osl 1001003 none)))], [.box true [.lit (.map 1001001)], .imap, .robox [.dat false y25q], .arr true y25q], []⟩
def c125_0q (f : view_all__view_May_fn1_L0T) (d : I125_0q.den) : Option view_all__view_May_fn1_L0X := f d.1.2.2.1.1 d.1.2.2.2.1.1 d.1.2.2.2.2.1.1 d.2.2.1 d.2.2.2.1.1 d.2.2.2.2.1
def L125_0q : LoopSum := ⟨[I125_0q], [(.exit 0, X0_125_0q)], view_all__view_May_fn1_L0X, fun k d => c125_0q (view_all__view_May_fn1_L0 k k) d, fun b x _ K => K (.exit 0) (stOf b X0_125_0q (((), (), ()), ((), x.1, (x.2.1, ()), x.2.2, ())))⟩
noncomputable def E125q : Env := ⟨prog, fun _ => false, sumsOf [R124q]⟩
def A125q : Notes := ⟨[], [(3, L125_0q)], [], false⟩
theorem B125q : EnvB E125q := env_n (l := [R124q]) mixed_orders ⟨F124q, trivial⟩
theorem lk125_0q : LoopOK prog 1000 2 23 (loopAt (bodyOf f255) 0) L125_0q := lp (A := A125q) L125_0q (fun d => (d.2.2.1, d.2.2.2.1.1, d.2.2.2.2.1)) c125_0q view_all__view_May_fn1_L0 view_all__view_May_fn1_L0b B125q loops0
def R125q : Nat × Entry := entX 255 [.c (.p (.dat false y25q)), .fn 357 [(true, [.map]), (false, [.p (.dat false y25q)])]] (.c (.own y25q)) [[.map]] 0 (fun k d => view_all__view_May_fn1 k d.1 d.2.1 d.2.2.1) (fun x => (x.1, x.2, ()))
theorem F125q : FnOK prog R125q := fX (rs := .c (.own y25q)) (os := [[.map]]) (ns := 0) f255 A125q 2 (fun d => (d.1, d.2.1)) B125q (loops1 lk125_0q)
def R126q : Nat × Entry := entA 349 [.c (.dat false y25q), .c (.int .i64)] (.c (.own y25q)) (fun k d => view_May k d.1 d.2.1) (fun x => (x, ()))
theorem F126q : FnOK prog R126q := fA (rs := .c (.own y25q)) f349 ⟨[], [], [], false⟩ (fun d => d.1) (env_n (l := [R120q, R125q]) mixed_orders ⟨F120q, F125q, trivial⟩) loops0
def R127q : Nat × Entry := entA 196 [.agg pc27q, .agg pc36q] (.c (.bool)) (fun k d => (u0_11 (fits_May k) d)) (fun x => (x, ()))
theorem F127q : FnOK prog R127q := fA (rs := .c (.bool)) f196 ⟨[], [], [], false⟩ (fun d => d.1) (env_n (l := []) mixed_orders trivial) loops0
def R128q : Nat × Entry := entA 359 [.agg pc36q, .ptr pc27q] (.c (.bool)) (fun k d => (u0_11 (fits_Fits_fn1 k) d)) (fun x => (x, ()))
theorem F128q : FnOK prog R128q := fA (rs := .c (.bool)) f359 ⟨[], [], [], false⟩ (fun d => d.1) (env_n (l := [R127q]) mixed_orders ⟨F127q, trivial⟩) loops0
def I129_0q : Spec := ⟨[(0, .c (.dat false y25q)), (1, .c (.lit (.fn 359 [1001000]))), (7, .c (.int .i64)), (8, .c (.int .i64))], [.robox cs1q], []⟩
def X0_129_0q : Spec := ⟨[], [], []⟩
def X1_129_0q : Spec := ⟨[(4, .c (.int .i64))], [], []⟩
def c129_0q (f : slices_IndexFunc_Pay__fits_Fits_fn1_L0T) (d : I129_0q.den) : Option (Unit ⊕ Int) := (u0_4 (f d.1.1.1 d.1.2.2.1.1 d.1.2.2.2.1.1) d.2.1)
def L129_0q : LoopSum := ⟨[I129_0q], [(.exit 0, X0_129_0q), (.ret, X1_129_0q)], (Unit ⊕ Int), fun k d => c129_0q (slices_IndexFunc_Pay__fits_Fits_fn1_L0 k k) d, fun b x _ K => match x with | .inl x => K (.exit 0) (stOf b X0_129_0q ((), ())) | .inr x => K .ret (stOf b X1_129_0q (((x, ()), ()), ()))⟩
noncomputable def E129q : Env := ⟨prog, fun _ => false, sumsOf [R128q]⟩
def A129q : Notes := ⟨[], [(2, L129_0q)], [], false⟩
theorem B129q : EnvB E129q := env_n (l := [R128q]) mixed_orders ⟨F128q, trivial⟩
theorem lk129_0q : LoopOK prog 1000 0 19 (loopAt (bodyOf f217) 0) L129_0q := lp (A := A129q) L129_0q (fun d => match d with | .inl d => .inl () | .inr d => .inr d.1.1.1) c129_0q slices_IndexFunc_Pay__fits_Fits_fn1_L0 slices_IndexFunc_Pay__fits_Fits_fn1_L0b B129q loops0
def R129q : Nat × Entry := entA 217 [.c (.dat false y25q), .fn 359 [pc27q]] (.c (.int .i64)) (fun k d => (u0_5 (slices_IndexFunc_Pay__fits_Fits_fn1 k) d)) (fun x => (x, ()))
theorem F129q : FnOK prog R129q := fA (rs := .c (.int .i64)) f217 A129q (fun d => d.1) B129q (loops1 lk129_0q)
def R130q : Nat × Entry := entA 200 [.c (.dat false y25q), .fn 359 [pc27q]] (.c (.bool)) (fun k d => (u0_5 (slices_ContainsFunc_Pay__fits_Fits_fn1 k) d)) (fun x => (x, ()))
theorem F130q : FnOK prog R130q := fA (rs := .c (.bool)) f200 ⟨[], [], [], false⟩ (fun d => d.1) (env_n (l := [R129q]) mixed_orders ⟨F129q, trivial⟩) loops0
def I131_0q : Spec := ⟨[(4, .c (.lit (.ptr 1001000 0))), (5, .c (.lit (.ptr 1001001 0))), (15, .c (.dat false y25q)), (16, .c (.int .i64)), (17, .c (.int .i64))], [.box true [.lit .nsl, .lit .nsl, .lit .nsl], .box true cs21q, .arr true (.int .i64), .arr true (.int .i64), .mat], []⟩
def X0_131_0q : Spec := ⟨[(4, .c (.lit (.ptr 1001000 0))), (5, .c (.lit (.ptr 1001001 0)))], [.box true [.lit .nsl, .lit .nsl, .lit .nsl], .box true cs21q, .arr true (.int .i64), .arr true (.int .i64), .mat], []⟩
def c131_0q (f : fits_moved_L0T) (d : I131_0q.den) : Option fits_moved_L0X := f d.1.2.2.1.1 d.1.2.2.2.1.1 d.1.2.2.2.2.1.1 d.2.2.2.1 d.2.2.2.2.1 d.2.2.2.2.2.1
def L131_0q : LoopSum := ⟨[I131_0q], [(.exit 0, X0_131_0q)], fits_moved_L0X, fun k d => c131_0q (fits_moved_L0 k k) d, fun b x _ K => K (.exit 0) (stOf b X0_131_0q (((), (), ()), ((), (), x.1, x.2.1, x.2.2, ())))⟩
noncomputable def E131q : Env := ⟨prog, fun _ => false, sumsOf [R15q, R16q]⟩
def A131q : Notes := ⟨[], [(3, L131_0q)], [], false⟩
theorem B131q : EnvB E131q := env_n (l := [R15q, R16q]) mixed_orders ⟨F15q, F16q, trivial⟩
theorem lk131_0q : LoopOK prog 1000 0 84 (loopAt (bodyOf f351) 0) L131_0q := lp (A := A131q) L131_0q (fun d => (d.2.2.2.1, d.2.2.2.2.1, d.2.2.2.2.2.1)) c131_0q fits_moved_L0 fits_moved_L0b B131q loops0
def R131q : Nat × Entry := entA 351 [.c (.int .i64), .c (.dat false y25q)] (.agg [.own (.int .i64), .own (.int .i64), .mat]) (fun k d => fits_moved k d.1 d.2.1) (fun x => (x.1, x.2.1, x.2.2, ()))
theorem F131q : FnOK prog R131q := fA (rs := .agg [.own (.int .i64), .own (.int .i64), .mat]) f351 A131q (fun d => (d.1, d.2.1, d.2.2.1)) B131q (loops1 lk131_0q)
def R132q : Nat × Entry := entA 352 [.agg pc36q, .ptr [.int .i64]] (.c (.bool)) (fun k d => (u0_8 (fits_Short_fn1 k) d)) (fun x => (x, ()))
theorem F132q : FnOK prog R132q := fA (rs := .c (.bool)) f352 ⟨[], [], [], false⟩ (fun d => d.1) (env_n (l := []) mixed_orders trivial) loops0
def I133_0q : Spec := ⟨[(0, .c (.dat false y25q)), (1, .c (.lit (.fn 352 [1001000]))), (7, .c (.int .i64)), (8, .c (.int .i64))], [.robox [.int .i64]], []⟩
def X0_133_0q : Spec := ⟨[], [], []⟩
def X1_133_0q : Spec := ⟨[(4, .c (.int .i64))], [], []⟩
def c133_0q (f : slices_IndexFunc_Pay__fits_Short_fn1_L0T) (d : I133_0q.den) : Option (Unit ⊕ Int) := f d.1.1.1 d.1.2.2.1.1 d.1.2.2.2.1.1 d.2.1.1
def L133_0q : LoopSum := ⟨[I133_0q], [(.exit 0, X0_133_0q), (.ret, X1_133_0q)], (Unit ⊕ Int), fun k d => c133_0q (slices_IndexFunc_Pay__fits_Short_fn1_L0 k k) d, fun b x _ K => match x with | .inl x => K (.exit 0) (stOf b X0_133_0q ((), ())) | .inr x => K .ret (stOf b X1_133_0q (((x, ()), ()), ()))⟩
noncomputable def E133q : Env := ⟨prog, fun _ => false, sumsOf [R132q]⟩
def A133q : Notes := ⟨[], [(2, L133_0q)], [], false⟩
theorem B133q : EnvB E133q := env_n (l := [R132q]) mixed_orders ⟨F132q, trivial⟩
theorem lk133_0q : LoopOK prog 1000 0 19 (loopAt (bodyOf f217) 0) L133_0q := lp (A := A133q) L133_0q (fun d => match d with | .inl d => .inl () | .inr d => .inr d.1.1.1) c133_0q slices_IndexFunc_Pay__fits_Short_fn1_L0 slices_IndexFunc_Pay__fits_Short_fn1_L0b B133q loops0
def R133q : Nat × Entry := entA 217 [.c (.dat false y25q), .fn 352 [[.int .i64]]] (.c (.int .i64)) (fun k d => slices_IndexFunc_Pay__fits_Short_fn1 k d.1 d.2.1) (fun x => (x, ()))
theorem F133q : FnOK prog R133q := fA (rs := .c (.int .i64)) f217 A133q (fun d => d.1) B133q (loops1 lk133_0q)
def R134q : Nat × Entry := entA 200 [.c (.dat false y25q), .fn 352 [[.int .i64]]] (.c (.bool)) (fun k d => slices_ContainsFunc_Pay__fits_Short_fn1 k d.1 d.2.1) (fun x => (x, ()))
theorem F134q : FnOK prog R134q := fA (rs := .c (.bool)) f200 ⟨[], [], [], false⟩ (fun d => d.1) (env_n (l := [R133q]) mixed_orders ⟨F133q, trivial⟩) loops0
def I135_0q : Spec := ⟨[(5, .c (.int .i64)), (12, .c (.dat false (.int .i64))), (13, .c (.int .i64)), (14, .c (.int .i64))], [], []⟩
def X0_135_0q : Spec := ⟨[(5, .c (.int .i64))], [], []⟩
def c135_0q (f : Int → List Int → Int → Int → Option Int) (d : I135_0q.den) : Option Int := f d.1.1.1 d.1.2.1.1 d.1.2.2.1.1 d.1.2.2.2.1.1
def L135_0q : LoopSum := ⟨[I135_0q], [(.exit 0, X0_135_0q)], Int, fun k d => c135_0q (lim_Net_L0 k k) d, fun b x _ K => K (.exit 0) (stOf b X0_135_0q (((x, ()), ()), ()))⟩
noncomputable def E135q : Env := ⟨prog, fun _ => false, sumsOf []⟩
def A135q : Notes := ⟨[], [(3, L135_0q)], [], false⟩
theorem B135q : EnvB E135q := env_n (l := []) mixed_orders trivial
theorem lk135_0q : LoopOK prog 1000 0 23 (loopAt (bodyOf f360) 0) L135_0q := lp (A := A135q) L135_0q (fun d => d.1.1.1) c135_0q lim_Net_L0 lim_Net_L0b B135q loops0
def R135q : Nat × Entry := entA 360 [.agg pc27q, .c (.int .i64)] (.c (.int .i64)) (fun k d => (u0_5 (lim_Net k) d)) (fun x => (x, ()))
theorem F135q : FnOK prog R135q := fA (rs := .c (.int .i64)) f360 A135q (fun d => d.1) B135q (loops1 lk135_0q)
def R136q : Nat × Entry := entA 361 [.c (.int .i64), .c (.int .i64)] (.c (.bool)) (fun k d => fits_over k d.1 d.2.1) (fun x => (x, ()))
theorem F136q : FnOK prog R136q := fA (rs := .c (.bool)) f361 ⟨[], [], [], false⟩ (fun d => d.1) (env_n (l := []) mixed_orders trivial) loops0
def R137q : Nat × Entry := entA 362 [.agg pc36q, .ptr [.int .i64], .ptr pc35q, .ptr pc26q, .ptr [.int .i64], .ptr pc27q] (.c (.bool)) (fun k d => (u0_19 (fits_move_isShort_fn1 k) d)) (fun x => (x, ()))
theorem F137q : FnOK prog R137q := fA (rs := .c (.bool)) f362 ⟨[], [], [], false⟩ (fun d => d.1) (env_n (l := [R106q, R136q]) mixed_orders ⟨F106q, F136q, trivial⟩) loops0
def I138_0q : Spec := ⟨[(0, .c (.dat false y25q)), (1, .c (.lit (.fn 362 [1001000, 1001001, 1001002, 1001003, 1001004]))), (7, .c (.int .i64)), (8, .c (.int .i64))], [.robox [.int .i64], .robox [.int .i64, .int .i64, .int .i64], .robox cs0q, .robox [.int .i64], .robox cs1q], []⟩
def X0_138_0q : Spec := ⟨[], [], []⟩
def X1_138_0q : Spec := ⟨[(4, .c (.int .i64))], [], []⟩
def c138_0q (f : slices_IndexFunc_Pay__fits_move_isShort_fn1_L0T) (d : I138_0q.den) : Option (Unit ⊕ Int) := (u0_4 (f d.1.1.1 d.1.2.2.1.1 d.1.2.2.2.1.1 d.2.1.1 d.2.2.1.1 d.2.2.1.2.1 d.2.2.1.2.2.1 d.2.2.2.1.1 d.2.2.2.1.2.1 d.2.2.2.1.2.2.1 d.2.2.2.2.1.1) d.2.2.2.2.2.1)
def L138_0q : LoopSum := ⟨[I138_0q], [(.exit 0, X0_138_0q), (.ret, X1_138_0q)], (Unit ⊕ Int), fun k d => c138_0q (slices_IndexFunc_Pay__fits_move_isShort_fn1_L0 k k) d, fun b x _ K => match x with | .inl x => K (.exit 0) (stOf b X0_138_0q ((), ())) | .inr x => K .ret (stOf b X1_138_0q (((x, ()), ()), ()))⟩
noncomputable def E138q : Env := ⟨prog, fun _ => false, sumsOf [R137q]⟩
def A138q : Notes := ⟨[], [(2, L138_0q)], [], false⟩
theorem B138q : EnvB E138q := env_n (l := [R137q]) mixed_orders ⟨F137q, trivial⟩
theorem lk138_0q : LoopOK prog 1000 0 19 (loopAt (bodyOf f217) 0) L138_0q := lp (A := A138q) L138_0q (fun d => match d with | .inl d => .inl () | .inr d => .inr d.1.1.1) c138_0q slices_IndexFunc_Pay__fits_move_isShort_fn1_L0 slices_IndexFunc_Pay__fits_move_isShort_fn1_L0b B138q loops0
def R138q : Nat × Entry := entA 217 [.c (.dat false y25q), .fn 362 [[.int .i64], pc35q, pc26q, [.int .i64], pc27q]] (.c (.int .i64)) (fun k d => (u0_13 (slices_IndexFunc_Pay__fits_move_isShort_fn1 k) d)) (fun x => (x, ()))
theorem F138q : FnOK prog R138q := fA (rs := .c (.int .i64)) f217 A138q (fun d => d.1) B138q (loops1 lk138_0q)
def R139q : Nat × Entry := entA 200 [.c (.dat false y25q), .fn 362 [[.int .i64], pc35q, pc26q, [.int .i64], pc27q]] (.c (.bool)) (fun k d => (u0_13 (slices_ContainsFunc_Pay__fits_move_isShort_fn1 k) d)) (fun x => (x, ()))
theorem F139q : FnOK prog R139q := fA (rs := .c (.bool)) f200 ⟨[], [], [], false⟩ (fun d => d.1) (env_n (l := [R138q]) mixed_orders ⟨F138q, trivial⟩) loops0
def I140_0q : Spec := ⟨[(3, .c (.dat false y25q)), (4, .c (.lit (.ptr 1001000 0))), (5, .c (.lit (.ptr 1001001 0))), (6, .c (.lit (.ptr 1001002 0))), (9, .c (.lit (.ptr 1001003 0))), (10, .c (.lit (.ptr 1001004 0))), (11, .c (.int .i64)), (39, .c (.dat false (.int .i64))), (40, .c (.int .i64)), (41, .c (.int .i64))], [.box true cs0q, .box true cs1q, .box true [.int .i64], .box true [.int .i64, .int .i64, .int .i64], .box true [.int .i64]], []⟩
def X0_140_0q : Spec := ⟨[(3, .c (.dat false y25q)), (4, .c (.lit (.ptr 1001000 0))), (5, .c (.lit (.ptr 1001001 0))), (6, .c (.lit (.ptr 1001002 0))), (9, .c (.lit (.ptr 1001003 0))), (10, .c (.lit (.ptr 1001004 0))), (11, .c (.int .i64))], [.box true cs0q, .box true cs1q, .box true [.int .i64], .box true [.int .i64, .int .i64, .int .i64], .box true [.int .i64]], []⟩
def c140_0q (f : fits_move_isShort_L0T) (d : I140_0q.den) : Option fits_move_isShort_L0X := (u0_4 (f d.1.1.1 d.1.2.2.2.2.2.2.1.1 d.1.2.2.2.2.2.2.2.1.1 d.1.2.2.2.2.2.2.2.2.1.1 d.1.2.2.2.2.2.2.2.2.2.1.1 d.2.1.1 d.2.1.2.1 d.2.1.2.2.1) d.2.2.1) d.2.2.2.1.1 d.2.2.2.2.1.1 d.2.2.2.2.1.2.1 d.2.2.2.2.1.2.2.1 d.2.2.2.2.2.1.1
def L140_0q : LoopSum := ⟨[I140_0q], [(.exit 0, X0_140_0q)], fits_move_isShort_L0X, fun k d => c140_0q (fits_move_isShort_L0 k k) d, fun b x _ K => K (.exit 0) (stOf b X0_140_0q (((x.1, ()), (), (), (), (), (), (x.2.1, ()), ()), ((x.2.2.1, x.2.2.2.1, x.2.2.2.2.1, ()), (j5_4 x ()), (x.2.2.2.2.2.2.2.2.2.1, ()), (x.2.2.2.2.2.2.2.2.2.2.1, x.2.2.2.2.2.2.2.2.2.2.2.1, x.2.2.2.2.2.2.2.2.2.2.2.2.1, ()), (x.2.2.2.2.2.2.2.2.2.2.2.2.2, ()), ())))⟩
noncomputable def E140q : Env := ⟨prog, fun _ => false, sumsOf [R135q, R136q, R139q]⟩
def A140q : Notes := ⟨[], [(7, L140_0q)], [], false⟩
theorem B140q : EnvB E140q := env_n (l := [R135q, R136q, R139q]) mixed_orders ⟨F135q, F136q, F139q, trivial⟩
theorem lk140_0q : LoopOK prog 1000 0 59 (loopAt (bodyOf f353) 0) L140_0q := lp (A := A140q) L140_0q (fun d => (d.1.1.1, d.1.2.2.2.2.2.2.1.1, d.2.1.1, d.2.1.2.1, d.2.1.2.2.1, (j0_4 d.2.2.1 (d.2.2.2.1.1, d.2.2.2.2.1.1, d.2.2.2.2.1.2.1, d.2.2.2.2.1.2.2.1, d.2.2.2.2.2.1.1)))) c140_0q fits_move_isShort_L0 fits_move_isShort_L0b B140q loops0
def R140q : Nat × Entry := entA 353 [.agg pc26q, .agg pc27q, .c (.int .i64), .c (.dat false y25q)] (.c (.bool)) (fun k d => (u0_9 (fits_move_isShort k) d)) (fun x => (x, ()))
theorem F140q : FnOK prog R140q := fA (rs := .c (.bool)) f353 A140q (fun d => d.1) B140q (loops1 lk140_0q)
def I141_0q : Spec := ⟨[(1, .c (.dat false y25q)), (2, .c (.lit (.ptr 1001000 0))), (5, .c (.lit (.ptr 1001001 0))), (6, .c (.lit (.osl 1001005 none))), (16, .c (.int .i64)), (17, .c (.int .i64))], [.box true cs1q, .box true cs21q, .arr true (.int .i64), .arr true (.int .i64), .mat, .arr true (.int .i64)], [(6, none, (.int .i64), false)]⟩
def X0_141_0q : Spec := ⟨[(6, .c (.lit (.osl 1001000 none)))], [.arr true (.int .i64)], []⟩
def c141_0q (f : fits_Short_L0T) (d : I141_0q.den) : Option (List Int) := (u0_4 (f d.1.1.1 d.1.2.2.2.2.1.1 d.1.2.2.2.2.2.1.1) d.2.1) d.2.2.2.1 d.2.2.2.2.1 d.2.2.2.2.2.1 d.2.2.2.2.2.2.1
def L141_0q : LoopSum := ⟨[I141_0q], [(.exit 0, X0_141_0q)], (List Int), fun k d => c141_0q (fits_Short_L0 k k) d, fun b x _ K => K (.exit 0) (stOf b X0_141_0q (((), ()), (x, ())))⟩
noncomputable def E141q : Env := ⟨prog, fun _ => false, sumsOf [R131q, R134q, R140q]⟩
def A141q : Notes := ⟨[], [(4, L141_0q)], [], false⟩
theorem B141q : EnvB E141q := env_n (l := [R131q, R134q, R140q]) mixed_orders ⟨F131q, F134q, F140q, trivial⟩
theorem lk141_0q : LoopOK prog 1000 0 37 (loopAt (bodyOf f333) 0) L141_0q := lp (A := A141q) L141_0q (fun d => d.2.1) c141_0q fits_Short_L0 fits_Short_L0b B141q loops0
def R141q : Nat × Entry := entA 333 [.agg pc27q, .c (.dat false y25q)] (.c (.own (.int .i64))) (fun k d => (u0_5 (fits_Short k) d)) (fun x => (x, ()))
theorem F141q : FnOK prog R141q := fA (rs := .c (.own (.int .i64))) f333 A141q (fun d => d.1) B141q (loops1 lk141_0q)
def R142q : Nat × Entry := entA 350 [.agg pc27q, .c (.dat false y25q)] (.c (.bool)) (fun k d => (u0_5 (fits_Fits k) d)) (fun x => (x, ()))
theorem F142q : FnOK prog R142q := fA (rs := .c (.bool)) f350 ⟨[], [], [], false⟩ (fun d => d.1) (env_n (l := [R130q, R141q]) mixed_orders ⟨F130q, F141q, trivial⟩) loops0
def R143q : Nat × Entry := entA 338 [.agg pc36q, .ptr pc27q] (.c (.bool)) (fun k d => (u0_11 (post_Post_fn1 k) d)) (fun x => (x, ()))
theorem F143q : FnOK prog R143q := fA (rs := .c (.bool)) f338 ⟨[], [], [], false⟩ (fun d => d.1) (env_n (l := [R127q]) mixed_orders ⟨F127q, trivial⟩) loops0
def I144_0q : Spec := ⟨[(0, .c (.dat false y25q)), (1, .c (.lit (.fn 338 [1001000]))), (7, .c (.int .i64)), (8, .c (.int .i64))], [.robox cs1q], []⟩
def X0_144_0q : Spec := ⟨[], [], []⟩
def X1_144_0q : Spec := ⟨[(4, .c (.int .i64))], [], []⟩
def c144_0q (f : slices_IndexFunc_Pay__post_Post_fn1_L0T) (d : I144_0q.den) : Option (Unit ⊕ Int) := (u0_4 (f d.1.1.1 d.1.2.2.1.1 d.1.2.2.2.1.1) d.2.1)
def L144_0q : LoopSum := ⟨[I144_0q], [(.exit 0, X0_144_0q), (.ret, X1_144_0q)], (Unit ⊕ Int), fun k d => c144_0q (slices_IndexFunc_Pay__post_Post_fn1_L0 k k) d, fun b x _ K => match x with | .inl x => K (.exit 0) (stOf b X0_144_0q ((), ())) | .inr x => K .ret (stOf b X1_144_0q (((x, ()), ()), ()))⟩
noncomputable def E144q : Env := ⟨prog, fun _ => false, sumsOf [R143q]⟩
def A144q : Notes := ⟨[], [(2, L144_0q)], [], false⟩
theorem B144q : EnvB E144q := env_n (l := [R143q]) mixed_orders ⟨F143q, trivial⟩
theorem lk144_0q : LoopOK prog 1000 0 19 (loopAt (bodyOf f217) 0) L144_0q := lp (A := A144q) L144_0q (fun d => match d with | .inl d => .inl () | .inr d => .inr d.1.1.1) c144_0q slices_IndexFunc_Pay__post_Post_fn1_L0 slices_IndexFunc_Pay__post_Post_fn1_L0b B144q loops0
def R144q : Nat × Entry := entA 217 [.c (.dat false y25q), .fn 338 [pc27q]] (.c (.int .i64)) (fun k d => (u0_5 (slices_IndexFunc_Pay__post_Post_fn1 k) d)) (fun x => (x, ()))
theorem F144q : FnOK prog R144q := fA (rs := .c (.int .i64)) f217 A144q (fun d => d.1) B144q (loops1 lk144_0q)
def R145q : Nat × Entry := entA 200 [.c (.dat false y25q), .fn 338 [pc27q]] (.c (.bool)) (fun k d => (u0_5 (slices_ContainsFunc_Pay__post_Post_fn1 k) d)) (fun x => (x, ()))
theorem F145q : FnOK prog R145q := fA (rs := .c (.bool)) f200 ⟨[], [], [], false⟩ (fun d => d.1) (env_n (l := [R144q]) mixed_orders ⟨F144q, trivial⟩) loops0
def R146q : Nat × Entry := entA 183 [.agg pc35q] (.c (.bool)) (fun k d => lim_Is_fn1 k d.1 d.2.1 d.2.2.1) (fun x => (x, ()))
theorem F146q : FnOK prog R146q := fA (rs := .c (.bool)) f183 ⟨[], [], [], false⟩ (fun d => d.1) (env_n (l := [R103q]) mixed_orders ⟨F103q, trivial⟩) loops0
def I147_0q : Spec := ⟨[(0, .c (.dat false y14q)), (1, .c (.lit (.fn 183 []))), (7, .c (.int .i64)), (8, .c (.int .i64))], [], []⟩
def X0_147_0q : Spec := ⟨[], [], []⟩
def X1_147_0q : Spec := ⟨[(4, .c (.int .i64))], [], []⟩
def c147_0q (f : slices_IndexFunc_Acct__lim_Is_fn1_L0T) (d : I147_0q.den) : Option (Unit ⊕ Int) := f d.1.1.1 d.1.2.2.1.1 d.1.2.2.2.1.1
def L147_0q : LoopSum := ⟨[I147_0q], [(.exit 0, X0_147_0q), (.ret, X1_147_0q)], (Unit ⊕ Int), fun k d => c147_0q (slices_IndexFunc_Acct__lim_Is_fn1_L0 k k) d, fun b x _ K => match x with | .inl x => K (.exit 0) (stOf b X0_147_0q ((), ())) | .inr x => K .ret (stOf b X1_147_0q (((x, ()), ()), ()))⟩
noncomputable def E147q : Env := ⟨prog, fun _ => false, sumsOf [R146q]⟩
def A147q : Notes := ⟨[], [(2, L147_0q)], [], false⟩
theorem B147q : EnvB E147q := env_n (l := [R146q]) mixed_orders ⟨F146q, trivial⟩
theorem lk147_0q : LoopOK prog 1000 0 19 (loopAt (bodyOf f248) 0) L147_0q := lp (A := A147q) L147_0q (fun d => match d with | .inl d => .inl () | .inr d => .inr d.1.1.1) c147_0q slices_IndexFunc_Acct__lim_Is_fn1_L0 slices_IndexFunc_Acct__lim_Is_fn1_L0b B147q loops0
def R147q : Nat × Entry := entA 248 [.c (.dat false y14q), .c (.fn 183)] (.c (.int .i64)) (fun k d => slices_IndexFunc_Acct__lim_Is_fn1 k d.1) (fun x => (x, ()))
theorem F147q : FnOK prog R147q := fA (rs := .c (.int .i64)) f248 A147q (fun d => d.1) B147q (loops1 lk147_0q)
def R148q : Nat × Entry := entA 185 [.c (.dat false y14q), .c (.fn 183)] (.c (.bool)) (fun k d => slices_ContainsFunc_Acct__lim_Is_fn1 k d.1) (fun x => (x, ()))
theorem F148q : FnOK prog R148q := fA (rs := .c (.bool)) f185 ⟨[], [], [], false⟩ (fun d => d.1) (env_n (l := [R147q]) mixed_orders ⟨F147q, trivial⟩) loops0
def R149q : Nat × Entry := entA 187 [.c (.int .i64)] (.c (.bool)) (fun k d => lim_isLimit k d.1) (fun x => (x, ()))
theorem F149q : FnOK prog R149q := fA (rs := .c (.bool)) f187 ⟨[], [], [], false⟩ (fun d => d.1) (env_n (l := []) mixed_orders trivial) loops0
def R150q : Nat × Entry := entA 249 [.c (.int .i64), .ptr [.fn 187]] (.c (.bool)) (fun k d => lim_isRow_fn1__lim_isLimit k d.1) (fun x => (x, ()))
theorem F150q : FnOK prog R150q := fA (rs := .c (.bool)) f249 ⟨[], [], [], false⟩ (fun d => d.1) (env_n (l := [R149q]) mixed_orders ⟨F149q, trivial⟩) loops0
def I151_0q : Spec := ⟨[(0, .c (.dat false (.int .i64))), (1, .c (.lit (.fn 249 [1001000]))), (7, .c (.int .i64)), (8, .c (.int .i64))], [.robox [.lit (.fn 187 [])]], []⟩
def X0_151_0q : Spec := ⟨[], [], []⟩
def X1_151_0q : Spec := ⟨[(4, .c (.int .i64))], [], []⟩
def c151_0q (f : slices_IndexFunc_int64__lim_isRow_fn1__lim_isLimit_L0T) (d : I151_0q.den) : Option (Unit ⊕ Int) := f d.1.1.1 d.1.2.2.1.1 d.1.2.2.2.1.1
def L151_0q : LoopSum := ⟨[I151_0q], [(.exit 0, X0_151_0q), (.ret, X1_151_0q)], (Unit ⊕ Int), fun k d => c151_0q (slices_IndexFunc_int64__lim_isRow_fn1__lim_isLimit_L0 k k) d, fun b x _ K => match x with | .inl x => K (.exit 0) (stOf b X0_151_0q ((), ())) | .inr x => K .ret (stOf b X1_151_0q (((x, ()), ()), ()))⟩
noncomputable def E151q : Env := ⟨prog, fun _ => false, sumsOf [R150q]⟩
def A151q : Notes := ⟨[], [(2, L151_0q)], [], false⟩
theorem B151q : EnvB E151q := env_n (l := [R150q]) mixed_orders ⟨F150q, trivial⟩
theorem lk151_0q : LoopOK prog 1000 0 19 (loopAt (bodyOf f250) 0) L151_0q := lp (A := A151q) L151_0q (fun d => match d with | .inl d => .inl () | .inr d => .inr d.1.1.1) c151_0q slices_IndexFunc_int64__lim_isRow_fn1__lim_isLimit_L0 slices_IndexFunc_int64__lim_isRow_fn1__lim_isLimit_L0b B151q loops0
def R151q : Nat × Entry := entA 250 [.c (.dat false (.int .i64)), .fn 249 [[.fn 187]]] (.c (.int .i64)) (fun k d => slices_IndexFunc_int64__lim_isRow_fn1__lim_isLimit k d.1) (fun x => (x, ()))
theorem F151q : FnOK prog R151q := fA (rs := .c (.int .i64)) f250 A151q (fun d => d.1) B151q (loops1 lk151_0q)
def R152q : Nat × Entry := entA 191 [.c (.dat false (.int .i64)), .fn 249 [[.fn 187]]] (.c (.bool)) (fun k d => slices_ContainsFunc_int64__lim_isRow_fn1__lim_isLimit k d.1) (fun x => (x, ()))
theorem F152q : FnOK prog R152q := fA (rs := .c (.bool)) f191 ⟨[], [], [], false⟩ (fun d => d.1) (env_n (l := [R151q]) mixed_orders ⟨F151q, trivial⟩) loops0
def R153q : Nat × Entry := entA 188 [.c (.dat false (.int .i64)), .c (.int .i64), .c (.fn 187)] (.c (.bool)) (fun k d => lim_isRow__lim_isLimit k d.1 d.2.1) (fun x => (x, ()))
theorem F153q : FnOK prog R153q := fA (rs := .c (.bool)) f188 ⟨[], [], [], false⟩ (fun d => d.1) (env_n (l := [R152q]) mixed_orders ⟨F152q, trivial⟩) loops0
def I154_0q : Spec := ⟨[(1, .c (.int .i64)), (2, .c (.lit (.fn 187 []))), (13, .c (.dat false (.sl (.int .i64)))), (14, .c (.int .i64)), (15, .c (.int .i64))], [], []⟩
def X0_154_0q : Spec := ⟨[], [], []⟩
def X1_154_0q : Spec := ⟨[(6, .c (.bool))], [], []⟩
def c154_0q (f : lim_isSquare__lim_isLimit_L0T) (d : I154_0q.den) : Option (Unit ⊕ Bool) := f d.1.1.1 d.1.2.2.1.1 d.1.2.2.2.1.1 d.1.2.2.2.2.1.1
def L154_0q : LoopSum := ⟨[I154_0q], [(.exit 0, X0_154_0q), (.ret, X1_154_0q)], (Unit ⊕ Bool), fun k d => c154_0q (lim_isSquare__lim_isLimit_L0 k k) d, fun b x _ K => match x with | .inl x => K (.exit 0) (stOf b X0_154_0q ((), ())) | .inr x => K .ret (stOf b X1_154_0q (((x, ()), ()), ()))⟩
noncomputable def E154q : Env := ⟨prog, fun _ => false, sumsOf [R153q]⟩
def A154q : Notes := ⟨[], [(4, L154_0q)], [], false⟩
theorem B154q : EnvB E154q := env_n (l := [R153q]) mixed_orders ⟨F153q, trivial⟩
theorem lk154_0q : LoopOK prog 1000 0 25 (loopAt (bodyOf f186) 0) L154_0q := lp (A := A154q) L154_0q (fun d => match d with | .inl d => .inl () | .inr d => .inr d.1.1.1) c154_0q lim_isSquare__lim_isLimit_L0 lim_isSquare__lim_isLimit_L0b B154q loops0
def R154q : Nat × Entry := entA 186 [.c (.dat false (.sl (.int .i64))), .c (.int .i64), .c (.fn 187)] (.c (.bool)) (fun k d => lim_isSquare__lim_isLimit k d.1 d.2.1) (fun x => (x, ()))
theorem F154q : FnOK prog R154q := fA (rs := .c (.bool)) f186 A154q (fun d => d.1) B154q (loops1 lk154_0q)
def R155q : Nat × Entry := entA 189 [.c (.int .i64)] (.c (.bool)) (fun k d => lim_isNet k d.1) (fun x => (x, ()))
theorem F155q : FnOK prog R155q := fA (rs := .c (.bool)) f189 ⟨[], [], [], false⟩ (fun d => d.1) (env_n (l := []) mixed_orders trivial) loops0
def R156q : Nat × Entry := entA 249 [.c (.int .i64), .ptr [.fn 189]] (.c (.bool)) (fun k d => lim_isRow_fn1__lim_isNet k d.1) (fun x => (x, ()))
theorem F156q : FnOK prog R156q := fA (rs := .c (.bool)) f249 ⟨[], [], [], false⟩ (fun d => d.1) (env_n (l := [R155q]) mixed_orders ⟨F155q, trivial⟩) loops0
def I157_0q : Spec := ⟨[(0, .c (.dat false (.int .i64))), (1, .c (.lit (.fn 249 [1001000]))), (7, .c (.int .i64)), (8, .c (.int .i64))], [.robox [.lit (.fn 189 [])]], []⟩
def X0_157_0q : Spec := ⟨[], [], []⟩
def X1_157_0q : Spec := ⟨[(4, .c (.int .i64))], [], []⟩
def c157_0q (f : slices_IndexFunc_int64__lim_isRow_fn1__lim_isNet_L0T) (d : I157_0q.den) : Option (Unit ⊕ Int) := f d.1.1.1 d.1.2.2.1.1 d.1.2.2.2.1.1
def L157_0q : LoopSum := ⟨[I157_0q], [(.exit 0, X0_157_0q), (.ret, X1_157_0q)], (Unit ⊕ Int), fun k d => c157_0q (slices_IndexFunc_int64__lim_isRow_fn1__lim_isNet_L0 k k) d, fun b x _ K => match x with | .inl x => K (.exit 0) (stOf b X0_157_0q ((), ())) | .inr x => K .ret (stOf b X1_157_0q (((x, ()), ()), ()))⟩
noncomputable def E157q : Env := ⟨prog, fun _ => false, sumsOf [R156q]⟩
def A157q : Notes := ⟨[], [(2, L157_0q)], [], false⟩
theorem B157q : EnvB E157q := env_n (l := [R156q]) mixed_orders ⟨F156q, trivial⟩
theorem lk157_0q : LoopOK prog 1000 0 19 (loopAt (bodyOf f250) 0) L157_0q := lp (A := A157q) L157_0q (fun d => match d with | .inl d => .inl () | .inr d => .inr d.1.1.1) c157_0q slices_IndexFunc_int64__lim_isRow_fn1__lim_isNet_L0 slices_IndexFunc_int64__lim_isRow_fn1__lim_isNet_L0b B157q loops0
def R157q : Nat × Entry := entA 250 [.c (.dat false (.int .i64)), .fn 249 [[.fn 189]]] (.c (.int .i64)) (fun k d => slices_IndexFunc_int64__lim_isRow_fn1__lim_isNet k d.1) (fun x => (x, ()))
theorem F157q : FnOK prog R157q := fA (rs := .c (.int .i64)) f250 A157q (fun d => d.1) B157q (loops1 lk157_0q)
def R158q : Nat × Entry := entA 191 [.c (.dat false (.int .i64)), .fn 249 [[.fn 189]]] (.c (.bool)) (fun k d => slices_ContainsFunc_int64__lim_isRow_fn1__lim_isNet k d.1) (fun x => (x, ()))
theorem F158q : FnOK prog R158q := fA (rs := .c (.bool)) f191 ⟨[], [], [], false⟩ (fun d => d.1) (env_n (l := [R157q]) mixed_orders ⟨F157q, trivial⟩) loops0
def R159q : Nat × Entry := entA 188 [.c (.dat false (.int .i64)), .c (.int .i64), .c (.fn 189)] (.c (.bool)) (fun k d => lim_isRow__lim_isNet k d.1 d.2.1) (fun x => (x, ()))
theorem F159q : FnOK prog R159q := fA (rs := .c (.bool)) f188 ⟨[], [], [], false⟩ (fun d => d.1) (env_n (l := [R158q]) mixed_orders ⟨F158q, trivial⟩) loops0
def I160_0q : Spec := ⟨[(1, .c (.int .i64)), (2, .c (.lit (.fn 189 []))), (13, .c (.dat false (.sl (.int .i64)))), (14, .c (.int .i64)), (15, .c (.int .i64))], [], []⟩
def X0_160_0q : Spec := ⟨[], [], []⟩
def X1_160_0q : Spec := ⟨[(6, .c (.bool))], [], []⟩
def c160_0q (f : lim_isSquare__lim_isNet_L0T) (d : I160_0q.den) : Option (Unit ⊕ Bool) := f d.1.1.1 d.1.2.2.1.1 d.1.2.2.2.1.1 d.1.2.2.2.2.1.1
def L160_0q : LoopSum := ⟨[I160_0q], [(.exit 0, X0_160_0q), (.ret, X1_160_0q)], (Unit ⊕ Bool), fun k d => c160_0q (lim_isSquare__lim_isNet_L0 k k) d, fun b x _ K => match x with | .inl x => K (.exit 0) (stOf b X0_160_0q ((), ())) | .inr x => K .ret (stOf b X1_160_0q (((x, ()), ()), ()))⟩
noncomputable def E160q : Env := ⟨prog, fun _ => false, sumsOf [R159q]⟩
def A160q : Notes := ⟨[], [(4, L160_0q)], [], false⟩
theorem B160q : EnvB E160q := env_n (l := [R159q]) mixed_orders ⟨F159q, trivial⟩
theorem lk160_0q : LoopOK prog 1000 0 25 (loopAt (bodyOf f186) 0) L160_0q := lp (A := A160q) L160_0q (fun d => match d with | .inl d => .inl () | .inr d => .inr d.1.1.1) c160_0q lim_isSquare__lim_isNet_L0 lim_isSquare__lim_isNet_L0b B160q loops0
def R160q : Nat × Entry := entA 186 [.c (.dat false (.sl (.int .i64))), .c (.int .i64), .c (.fn 189)] (.c (.bool)) (fun k d => lim_isSquare__lim_isNet k d.1 d.2.1) (fun x => (x, ()))
theorem F160q : FnOK prog R160q := fA (rs := .c (.bool)) f186 A160q (fun d => d.1) B160q (loops1 lk160_0q)
def I161_0q : Spec := ⟨[(0, .c (.dat false (.sl (.int .i64)))), (3, .c (.int .i64)), (7, .c (.dat false (.sl (.int .i64)))), (8, .c (.int .i64)), (9, .c (.int .i64)), (14, .c (.dat false (.int .i64))), (15, .c (.int .i64)), (16, .c (.int .i64))], [], []⟩
def X0_161_0q : Spec := ⟨[(0, .c (.dat false (.sl (.int .i64)))), (7, .c (.dat false (.sl (.int .i64)))), (8, .c (.int .i64)), (9, .c (.int .i64))], [], []⟩
def X1_161_0q : Spec := ⟨[(2, .c (.bool))], [], []⟩
def c161_0q (f : lim_isTurned_L1T) (d : I161_0q.den) : Option lim_isTurned_L1X := f d.1.1.1 d.1.2.1.1 d.1.2.2.1.1 d.1.2.2.2.1.1 d.1.2.2.2.2.1.1 d.1.2.2.2.2.2.1.1 d.1.2.2.2.2.2.2.1.1 d.1.2.2.2.2.2.2.2.1.1
def L161_0q : LoopSum := ⟨[I161_0q], [(.exit 2, X0_161_0q), (.ret, X1_161_0q)], lim_isTurned_L1X, fun k d => c161_0q (lim_isTurned_L1 k k) d, fun b x _ K => match x with | .inl x => K (.exit 2) (stOf b X0_161_0q (((x.1, ()), (x.2.1, ()), (x.2.2.1, ()), (x.2.2.2, ()), ()), ())) | .inr x => K .ret (stOf b X1_161_0q (((x, ()), ()), ()))⟩
def I161_1q : Spec := ⟨[(0, .c (.dat false (.sl (.int .i64)))), (7, .c (.dat false (.sl (.int .i64)))), (8, .c (.int .i64)), (9, .c (.int .i64))], [], []⟩
def X0_161_1q : Spec := ⟨[], [], []⟩
def X1_161_1q : Spec := ⟨[(2, .c (.bool))], [], []⟩
def c161_1q (f : lim_isTurned_L0T) (d : I161_1q.den) : Option (Unit ⊕ Bool) := f d.1.1.1 d.1.2.1.1 d.1.2.2.1.1 d.1.2.2.2.1.1
def L161_1q : LoopSum := ⟨[I161_1q], [(.exit 0, X0_161_1q), (.ret, X1_161_1q)], (Unit ⊕ Bool), fun k d => c161_1q (lim_isTurned_L0 k k) d, fun b x _ K => match x with | .inl x => K (.exit 0) (stOf b X0_161_1q ((), ())) | .inr x => K .ret (stOf b X1_161_1q (((x, ()), ()), ()))⟩
noncomputable def E161q : Env := ⟨prog, fun _ => false, sumsOf []⟩
def A161q : Notes := ⟨[], [(5, L161_0q), (2, L161_1q)], [], false⟩
theorem B161q : EnvB E161q := env_n (l := []) mixed_orders trivial
theorem lk161_0q : LoopOK prog 1000 0 33 (loopAt (loopAt (bodyOf f190) 0) 0) L161_0q := lp (A := A161q) L161_0q (fun d => match d with | .inl d => .inl (d.1.1.1, d.1.2.1.1, d.1.2.2.1.1, d.1.2.2.2.1.1) | .inr d => .inr d.1.1.1) c161_0q lim_isTurned_L1 lim_isTurned_L1b B161q loops0
theorem lk161_1q : LoopOK prog 1000 0 33 (loopAt (bodyOf f190) 0) L161_1q := lp (A := A161q) L161_1q (fun d => match d with | .inl d => .inl () | .inr d => .inr d.1.1.1) c161_1q lim_isTurned_L0 lim_isTurned_L0b B161q (loops1 lk161_0q)
def R161q : Nat × Entry := entA 190 [.c (.dat false (.sl (.int .i64)))] (.c (.bool)) (fun k d => lim_isTurned k d.1) (fun x => (x, ()))
theorem F161q : FnOK prog R161q := fA (rs := .c (.bool)) f190 A161q (fun d => d.1) B161q (loops1 lk161_1q)
def R162q : Nat × Entry := entA 128 [.agg pc27q] (.c (.bool)) (fun k d => (u0_4 (lim_Is k) d)) (fun x => (x, ()))
theorem F162q : FnOK prog R162q := fA (rs := .c (.bool)) f128 ⟨[], [], [], false⟩ (fun d => d.1) (env_n (l := [R148q, R154q, R153q, R160q, R161q]) mixed_orders ⟨F148q, F154q, F153q, F160q, F161q, trivial⟩) loops0
def I163_0q : Spec := ⟨[(2, .c (.lit (.ptr 1001000 0))), (4, .c (.lit (.ptr 1001001 0))), (7, .c (.lit (.ptr 1001002 0))), (24, .c (.dat false y25q)), (25, .c (.int .i64)), (26, .c (.int .i64))], [.box true cs3q, .box true cs25q, .box true cs22q, .arr true y14q, .mat, .arr true (.int .i64), .mat], []⟩
def X0_163_0q : Spec := ⟨[(2, .c (.lit (.ptr 1001000 0))), (4, .c (.lit (.ptr 1001001 0))), (7, .c (.lit (.ptr 1001002 0)))], [.box true cs3q, .box true cs25q, .box true cs22q, .arr true y14q, .mat, .arr true (.int .i64), .mat], []⟩
def c163_0q (f : post_Post_L0T) (d : I163_0q.den) : Option post_Post_L0X := (u0_4 (f d.1.2.2.2.1.1 d.1.2.2.2.2.1.1 d.1.2.2.2.2.2.1.1) d.2.1) d.2.2.2.2.1 d.2.2.2.2.2.1 d.2.2.2.2.2.2.1 d.2.2.2.2.2.2.2.1
def L163_0q : LoopSum := ⟨[I163_0q], [(.exit 0, X0_163_0q)], post_Post_L0X, fun k d => c163_0q (post_Post_L0 k k) d, fun b x _ K => K (.exit 0) (stOf b X0_163_0q (((), (), (), ()), ((j0_4 x ()), (), (), x.2.2.2.2.1, x.2.2.2.2.2.1, x.2.2.2.2.2.2.1, x.2.2.2.2.2.2.2, ())))⟩
noncomputable def E163q : Env := ⟨prog, fun _ => false, sumsOf [R145q, R86q, R106q, R162q]⟩
def A163q : Notes := ⟨[], [(6, L163_0q)], [], false⟩
theorem B163q : EnvB E163q := env_n (l := [R145q, R86q, R106q, R162q]) mixed_orders ⟨F145q, F86q, F106q, F162q, trivial⟩
theorem lk163_0q : LoopOK prog 1000 0 104 (loopAt (bodyOf f310) 0) L163_0q := lp (A := A163q) L163_0q (fun d => (j0_4 d.2.1 (d.2.2.2.2.1, d.2.2.2.2.2.1, d.2.2.2.2.2.2.1, d.2.2.2.2.2.2.2.1))) c163_0q post_Post_L0 post_Post_L0b B163q loops0
def R163q : Nat × Entry := entA 310 [.agg pc28q, .c (.dat false y25q)] (.tup [(true, rc40q), (false, rc41q)]) (fun k d => (u0_5 (post_Post k) d)) (fun x => (f0_5 x ()))
theorem F163q : FnOK prog R163q := fA (rs := .tup [(true, rc40q), (false, rc41q)]) f310 A163q (fun d => (g0_5 d)) B163q (loops1 lk163_0q)
def I164_0q : Spec := ⟨[(3, .c (.lit (.ptr 1001000 0))), (6, .c (.lit (.ptr 1001001 0))), (7, .c (.lit (.ptr 1001002 0))), (15, .c (.lit (.osl 1001003 none))), (16, .c (.int .i64)), (17, .c (.int .i64))], [.box true cs3q, .box true cs10q, .box true cs25q, .arr true y25q], []⟩
def X0_164_0q : Spec := ⟨[(3, .c (.lit (.ptr 1001000 0))), (6, .c (.lit (.ptr 1001001 0))), (7, .c (.lit (.ptr 1001002 0)))], [.box true cs3q, .box true cs10q, .box true cs25q], []⟩
def X1_164_0q : Spec := ⟨[(6, .c (.lit (.ptr 1001000 0))), (7, .c (.lit (.ptr 1001001 0))), (8, .c (.bool))], [.box true cs10q, .box true cs3q], []⟩
def c164_0q (f : free_next_L0T) (d : I164_0q.den) : Option free_next_L0X := (u0_7 (u0_4 (f d.1.2.2.2.2.1.1 d.1.2.2.2.2.2.1.1) d.2.1) d.2.2.1) d.2.2.2.2.1
def L164_0q : LoopSum := ⟨[I164_0q], [(.exit 0, X0_164_0q), (.ret, X1_164_0q)], free_next_L0X, fun k d => c164_0q (free_next_L0 k k) d, fun b x _ K => match x with | .inl x => K (.exit 0) (stOf b X0_164_0q (((), (), (), ()), ((j0_4 x ()), (f4_7 x ()), (), ()))) | .inr x => K .ret (stOf b X1_164_0q (((), (), (x.1, ()), ()), ((j1_7 x ()), (f8_4 x ()), ())))⟩
noncomputable def E164q : Env := ⟨prog, fun _ => false, sumsOf [R126q, R142q, R163q]⟩
def A164q : Notes := ⟨[], [(2, L164_0q)], [], false⟩
theorem B164q : EnvB E164q := env_n (l := [R126q, R142q, R163q]) mixed_orders ⟨F126q, F142q, F163q, trivial⟩
theorem lk164_0q : LoopOK prog 1000 0 40 (loopAt (bodyOf f331) 0) L164_0q := lp (A := A164q) L164_0q (fun d => match d with | .inl d => .inl (j0_4 d.2.1 (g0_7 d.2.2.1)) | .inr d => .inr (d.1.2.2.1.1, (j0_7 d.2.1 (g0_4 d.2.2.1)))) c164_0q free_next_L0 free_next_L0b B164q loops0
def R164q : Nat × Entry := entA 331 [.agg pc28q, .c (.dat true y25q), .c (.int .i64)] (.tup [(true, rc46q), (true, rc40q), (false, [.bool])]) (fun k d => (u0_6 (free_next k) d)) (fun x => (f0_12 x ()))
theorem F164q : FnOK prog R164q := fA (rs := .tup [(true, rc46q), (true, rc40q), (false, [.bool])]) f331 A164q (fun d => (g0_12 d)) B164q (loops1 lk164_0q)
def I165_0q : Spec := ⟨[(2, .c (.int .i64)), (6, .c (.lit (.ptr 1001000 0))), (7, .c (.dat true y25q)), (8, .c (.lit (.osl 1001001 none)))], [.box true cs3q, .arr true y25q], [(8, none, y25q, false)]⟩
def X0_165_0q : Spec := ⟨[(6, .c (.lit (.ptr 1001000 0))), (7, .c (.dat true y25q)), (8, .c (.lit (.osl 1001001 none)))], [.box true cs3q, .arr true y25q], []⟩
def c165_0q (f : free_Run_L0T) (d : I165_0q.den) : Option free_Run_L0X := (u0_4 (f d.1.1.1 d.1.2.2.1.1) d.2.1) d.2.2.1
def L165_0q : LoopSum := ⟨[I165_0q], [(.ret, X0_165_0q)], free_Run_L0X, fun k d => c165_0q (free_Run_L0 k k) d, fun b x _ K => K .ret (stOf b X0_165_0q (((), (x.1, ()), (), ()), ((j1_4 x ()), x.2.2.2.2.2, ())))⟩
noncomputable def E165q : Env := ⟨prog, fun _ => false, sumsOf [R164q, R76q]⟩
def A165q : Notes := ⟨[], [(2, L165_0q)], [], false⟩
theorem B165q : EnvB E165q := env_n (l := [R164q, R76q]) mixed_orders ⟨F164q, F76q, trivial⟩
theorem lk165_0q : LoopOK prog 1000 0 40 (loopAt (bodyOf f305) 0) L165_0q := lp (A := A165q) L165_0q (fun d => (d.1.2.1.1, (j0_4 d.2.1 d.2.2.1))) c165_0q free_Run_L0 free_Run_L0b B165q loops0
def R165q : Nat × Entry := entA 305 [.agg pc28q, .c (.dat true y25q), .c (.int .i64)] (.tup [(true, rc40q), (false, [.fro y25q]), (false, [.own y25q])]) (fun k d => (u0_6 (free_Run k) d)) (fun x => (f0_6 x ()))
theorem F165q : FnOK prog R165q := fA (rs := .tup [(true, rc40q), (false, [.fro y25q]), (false, [.own y25q])]) f305 A165q (fun d => (g0_6 d)) B165q (loops1 lk165_0q)
def I166_0q : Spec := ⟨[(3, .c (.lit (.ptr 1001000 0))), (6, .c (.lit (.ptr 1001001 0))), (8, .c (.lit (.osl 1001002 none))), (10, .c (.lit (.ptr 1001003 0))), (18, .c (.lit (.osl 1001002 none))), (19, .c (.int .i64)), (20, .c (.int .i64)), (24, .c (.lit (.osl 1001002 none))), (25, .c (.int .i64)), (26, .c (.int .i64))], [.box true cs3q, .box true cs12q, .arr true y25q, .box true cs10q], []⟩
def X0_166_0q : Spec := ⟨[(3, .c (.lit (.ptr 1001000 0))), (6, .c (.lit (.ptr 1001001 0))), (8, .c (.lit (.osl 1001002 none))), (18, .c (.lit (.osl 1001002 none))), (19, .c (.int .i64)), (20, .c (.int .i64))], [.box true cs3q, .box true cs12q, .arr true y25q], []⟩
def X1_166_0q : Spec := ⟨[(6, .c (.lit (.ptr 1001000 0))), (7, .c (.bool))], [.box true cs11q], []⟩
def c166_0q (f : pair_next_L1T) (d : I166_0q.den) : Option pair_next_L1X := (u0_7 ((u0_14 (u0_4 (f d.1.2.2.2.2.2.1.1 d.1.2.2.2.2.2.2.1.1 d.1.2.2.2.2.2.2.2.2.1.1 d.1.2.2.2.2.2.2.2.2.2.1.1) d.2.1) d.2.2.1) d.2.2.2.1) d.2.2.2.2.1)
def L166_0q : LoopSum := ⟨[I166_0q], [(.exit 2, X0_166_0q), (.ret, X1_166_0q)], pair_next_L1X, fun k d => c166_0q (pair_next_L1 k k) d, fun b x _ K => match x with | .inl x => K (.exit 2) (stOf b X0_166_0q (((), (), (), (), (x.1, ()), (x.2.1, ()), ()), ((j2_4 x ()), (j6_14 x ()), x.2.2.2.2.2.2.2.2.2.2.2.2.2.2.2.2.2.2.2.2, ()))) | .inr x => K .ret (stOf b X1_166_0q (((), (x.1, ()), ()), ((f1_18 x ()), ())))⟩
def I166_1q : Spec := ⟨[(3, .c (.lit (.ptr 1001000 0))), (6, .c (.lit (.ptr 1001001 0))), (8, .c (.lit (.osl 1001002 none))), (18, .c (.lit (.osl 1001002 none))), (19, .c (.int .i64)), (20, .c (.int .i64))], [.box true cs3q, .box true cs12q, .arr true y25q], []⟩
def X0_166_1q : Spec := ⟨[(6, .c (.lit (.ptr 1001000 0)))], [.box true cs12q], []⟩
def X1_166_1q : Spec := ⟨[(6, .c (.lit (.ptr 1001000 0))), (7, .c (.bool))], [.box true cs11q], []⟩
def c166_1q (f : pair_next_L0T) (d : I166_1q.den) : Option pair_next_L0X := (u0_14 (u0_4 (f d.1.2.2.2.2.1.1 d.1.2.2.2.2.2.1.1) d.2.1) d.2.2.1) d.2.2.2.1
def L166_1q : LoopSum := ⟨[I166_1q], [(.exit 0, X0_166_1q), (.ret, X1_166_1q)], pair_next_L0X, fun k d => c166_1q (pair_next_L0 k k) d, fun b x _ K => match x with | .inl x => K (.exit 0) (stOf b X0_166_1q (((), ()), ((f0_14 x ()), ()))) | .inr x => K .ret (stOf b X1_166_1q (((), (x.1, ()), ()), ((f1_18 x ()), ())))⟩
noncomputable def E166q : Env := ⟨prog, fun _ => false, sumsOf [R126q, R142q, R163q]⟩
def A166q : Notes := ⟨[], [(6, L166_0q), (3, L166_1q)], [], false⟩
theorem B166q : EnvB E166q := env_n (l := [R126q, R142q, R163q]) mixed_orders ⟨F126q, F142q, F163q, trivial⟩
theorem lk166_0q : LoopOK prog 1000 0 74 (loopAt (loopAt (bodyOf f332) 0) 0) L166_0q := lp (A := A166q) L166_0q (fun d => match d with | .inl d => .inl (d.1.2.2.2.2.1.1, d.1.2.2.2.2.2.1.1, (j0_4 d.2.1 (j0_14 d.2.2.1 d.2.2.2.1))) | .inr d => .inr (d.1.2.1.1, (g0_18 d.2.1))) c166_0q pair_next_L1 pair_next_L1b B166q loops0
theorem lk166_1q : LoopOK prog 1000 0 74 (loopAt (bodyOf f332) 0) L166_1q := lp (A := A166q) L166_1q (fun d => match d with | .inl d => .inl (g0_14 d.2.1) | .inr d => .inr (d.1.2.1.1, (g0_18 d.2.1))) c166_1q pair_next_L0 pair_next_L0b B166q (loops1 lk166_0q)
def R166q : Nat × Entry := entA 332 [.agg pc28q, .c (.dat true y25q), .c (.int .i64)] (.tup [(true, rc48q), (false, [.bool])]) (fun k d => (u0_6 (pair_next k) d)) (fun x => (f0_19 x ()))
theorem F166q : FnOK prog R166q := fA (rs := .tup [(true, rc48q), (false, [.bool])]) f332 A166q (fun d => (g0_19 d)) B166q (loops1 lk166_1q)
def I167_0q : Spec := ⟨[(2, .c (.int .i64)), (6, .c (.lit (.ptr 1001000 0))), (7, .c (.dat true y25q)), (8, .c (.lit (.osl 1001001 none))), (33, .c (.lit (.osl 1001002 none))), (34, .c (.int .i64)), (35, .c (.int .i64))], [.box true cs3q, .arr true y25q, .arr true y25q], [(8, none, y25q, false)]⟩
def X0_167_0q : Spec := ⟨[(2, .c (.int .i64)), (6, .c (.lit (.ptr 1001000 0))), (7, .c (.dat true y25q)), (8, .c (.lit (.osl 1001001 none)))], [.box true cs3q, .arr true y25q], []⟩
def c167_0q (f : pair_Run_L1T) (d : I167_0q.den) : Option pair_Run_L1X := (u0_4 (f d.1.1.1 d.1.2.2.1.1 d.1.2.2.2.2.2.1.1 d.1.2.2.2.2.2.2.1.1) d.2.1) d.2.2.1 d.2.2.2.1
def L167_0q : LoopSum := ⟨[I167_0q], [(.exit 2, X0_167_0q)], pair_Run_L1X, fun k d => c167_0q (pair_Run_L1 k k) d, fun b x _ K => K (.exit 2) (stOf b X0_167_0q (((x.1, ()), (), (x.2.1, ()), (), ()), ((j2_4 x ()), x.2.2.2.2.2.2, ())))⟩
def I167_1q : Spec := ⟨[(2, .c (.int .i64)), (6, .c (.lit (.ptr 1001000 0))), (7, .c (.dat true y25q)), (8, .c (.lit (.osl 1001001 none)))], [.box true cs3q, .arr true y25q], [(8, none, y25q, false)]⟩
def X0_167_1q : Spec := ⟨[(6, .c (.lit (.ptr 1001000 0))), (7, .c (.dat true y25q)), (8, .c (.lit (.osl 1001001 none)))], [.box true cs3q, .arr true y25q], []⟩
def c167_1q (f : pair_Run_L0T) (d : I167_1q.den) : Option pair_Run_L0X := (u0_4 (f d.1.1.1 d.1.2.2.1.1) d.2.1) d.2.2.1
def L167_1q : LoopSum := ⟨[I167_1q], [(.ret, X0_167_1q)], pair_Run_L0X, fun k d => c167_1q (pair_Run_L0 k k) d, fun b x _ K => K .ret (stOf b X0_167_1q (((), (x.1, ()), (), ()), ((j1_4 x ()), x.2.2.2.2.2, ())))⟩
noncomputable def E167q : Env := ⟨prog, fun _ => false, sumsOf [R166q, R76q]⟩
def A167q : Notes := ⟨[], [(7, L167_0q), (2, L167_1q)], [], false⟩
theorem B167q : EnvB E167q := env_n (l := [R166q, R76q]) mixed_orders ⟨F166q, F76q, trivial⟩
theorem lk167_0q : LoopOK prog 1000 0 52 (loopAt (loopAt (bodyOf f306) 0) 0) L167_0q := lp (A := A167q) L167_0q (fun d => (d.1.1.1, d.1.2.2.1.1, (j0_4 d.2.1 d.2.2.1))) c167_0q pair_Run_L1 pair_Run_L1b B167q loops0
theorem lk167_1q : LoopOK prog 1000 0 52 (loopAt (bodyOf f306) 0) L167_1q := lp (A := A167q) L167_1q (fun d => (d.1.2.1.1, (j0_4 d.2.1 d.2.2.1))) c167_1q pair_Run_L0 pair_Run_L0b B167q (loops1 lk167_0q)
def R167q : Nat × Entry := entA 306 [.agg pc28q, .c (.dat true y25q), .c (.int .i64)] (.tup [(true, rc40q), (false, [.fro y25q]), (false, [.own y25q])]) (fun k d => (u0_6 (pair_Run k) d)) (fun x => (f0_6 x ()))
theorem F167q : FnOK prog R167q := fA (rs := .tup [(true, rc40q), (false, [.fro y25q]), (false, [.own y25q])]) f306 A167q (fun d => (g0_6 d)) B167q (loops1 lk167_1q)
def I168_0q : Spec := ⟨[(2, .c (.int .i64)), (6, .c (.lit (.ptr 1001000 0))), (7, .c (.dat true y25q)), (8, .c (.lit (.osl 1001001 none)))], [.box true cs3q, .arr true y25q], [(8, none, y25q, false)]⟩
def X0_168_0q : Spec := ⟨[(6, .c (.lit (.ptr 1001000 0))), (7, .c (.dat true y25q)), (8, .c (.lit (.osl 1001001 none)))], [.box true cs3q, .arr true y25q], []⟩
def c168_0q (f : settle_some_L0T) (d : I168_0q.den) : Option settle_some_L0X := (u0_4 (f d.1.1.1 d.1.2.2.1.1) d.2.1) d.2.2.1
def L168_0q : LoopSum := ⟨[I168_0q], [(.ret, X0_168_0q)], settle_some_L0X, fun k d => c168_0q (settle_some_L0 k k) d, fun b x _ K => K .ret (stOf b X0_168_0q (((), (x.1, ()), (), ()), ((j1_4 x ()), x.2.2.2.2.2, ())))⟩
noncomputable def E168q : Env := ⟨prog, fun _ => false, sumsOf [R165q, R167q]⟩
def A168q : Notes := ⟨[], [(2, L168_0q)], [], false⟩
theorem B168q : EnvB E168q := env_n (l := [R165q, R167q]) mixed_orders ⟨F165q, F167q, trivial⟩
theorem lk168_0q : LoopOK prog 1000 0 40 (loopAt (bodyOf f274) 0) L168_0q := lp (A := A168q) L168_0q (fun d => (d.1.2.1.1, (j0_4 d.2.1 d.2.2.1))) c168_0q settle_some_L0 settle_some_L0b B168q loops0
def R168q : Nat × Entry := entA 274 [.agg pc28q, .c (.dat true y25q), .c (.int .i64)] (.tup [(true, rc40q), (false, [.fro y25q]), (false, [.own y25q])]) (fun k d => (u0_6 (settle_some k) d)) (fun x => (f0_6 x ()))
theorem F168q : FnOK prog R168q := fA (rs := .tup [(true, rc40q), (false, [.fro y25q]), (false, [.own y25q])]) f274 A168q (fun d => (g0_6 d)) B168q (loops1 lk168_0q)
def R169q : Nat × Entry := entC 334 false (.int .i64) (.own (.int .i64)) slices_Clone_int
theorem F169q : FnOK prog R169q := fC f334 ⟨[], [], [], false⟩ (env_n (l := []) mixed_orders trivial) loops0
def R170q : Nat × Entry := entX 335 [.agg pc36q, .ptr true [.own (.int .i64)]] (.c (.bool)) [rc57q] 0 (fun k d => (u0_8 (view_Heads_fn1 k) d)) (fun x => (x.1, x.2, ()))
theorem F170q : FnOK prog R170q := fX (rs := .c (.bool)) (os := [rc57q]) (ns := 0) f335 ⟨[], [], [], false⟩ 2 (fun d => (d.1, d.2.1)) (env_n (l := []) mixed_orders trivial) loops0
def I171_0q : Spec := ⟨[(1, .c (.lit (.fn 335 [1001000]))), (5, .c (.lit (.osl 1001002 none))), (8, .c (.dat false y25q)), (9, .c (.int .i64)), (10, .c (.int .i64))], [.box true [.lit (.osl 1001001 none)], .arr true (.int .i64), .arr true y25q], [(5, none, y25q, false)]⟩
def X0_171_0q : Spec := ⟨[(1, .c (.lit (.fn 335 [1001000]))), (5, .c (.lit (.osl 1001002 none)))], [.box true [.lit (.osl 1001001 none)], .arr true (.int .i64), .arr true y25q], []⟩
def c171_0q (f : view_all__view_Heads_fn1_L0T) (d : I171_0q.den) : Option view_all__view_Heads_fn1_L0X := f d.1.2.2.1.1 d.1.2.2.2.1.1 d.1.2.2.2.2.1.1 d.2.2.1 d.2.2.2.1
def L171_0q : LoopSum := ⟨[I171_0q], [(.exit 0, X0_171_0q)], view_all__view_Heads_fn1_L0X, fun k d => c171_0q (view_all__view_Heads_fn1_L0 k k) d, fun b x _ K => K (.exit 0) (stOf b X0_171_0q (((), (), ()), ((), x.1, x.2, ())))⟩
noncomputable def E171q : Env := ⟨prog, fun _ => false, sumsOf [R170q]⟩
def A171q : Notes := ⟨[], [(3, L171_0q)], [], false⟩
theorem B171q : EnvB E171q := env_n (l := [R170q]) mixed_orders ⟨F170q, trivial⟩
theorem lk171_0q : LoopOK prog 1000 2 23 (loopAt (bodyOf f255) 0) L171_0q := lp (A := A171q) L171_0q (fun d => (d.2.2.1, d.2.2.2.1)) c171_0q view_all__view_Heads_fn1_L0 view_all__view_Heads_fn1_L0b B171q loops0
def R171q : Nat × Entry := entX 255 [.c (.p (.dat false y25q)), .fn 335 [(true, [.own (.int .i64)])]] (.c (.own y25q)) [rc57q] 0 (fun k d => view_all__view_Heads_fn1 k d.1 d.2.1) (fun x => (x.1, x.2, ()))
theorem F171q : FnOK prog R171q := fX (rs := .c (.own y25q)) (os := [rc57q]) (ns := 0) f255 A171q 2 (fun d => (d.1, d.2.1)) B171q (loops1 lk171_0q)
def R172q : Nat × Entry := entA 308 [.c (.dat false y25q), .c (.dat false (.int .i64))] (.c (.own y25q)) (fun k d => view_Heads k d.1 d.2.1) (fun x => (x, ()))
theorem F172q : FnOK prog R172q := fA (rs := .c (.own y25q)) f308 ⟨[], [], [], false⟩ (fun d => d.1) (env_n (l := [R169q, R171q]) mixed_orders ⟨F169q, F171q, trivial⟩) loops0
def I173_0q : Spec := ⟨[(3, .c (.lit (.ptr 1001000 0))), (6, .c (.lit (.osl 1001001 none))), (7, .c (.int .i64)), (8, .c (.lit (.osl 1001002 none))), (18, .c (.int .i64)), (19, .c (.int .i64))], [.box true cs1q, .arr true (.int .i64), .arr true y25q], [(6, none, (.int .i64), false)]⟩
def X0_173_0q : Spec := ⟨[(3, .c (.lit (.ptr 1001000 0))), (6, .c (.lit (.osl 1001001 none))), (7, .c (.int .i64)), (8, .c (.lit (.osl 1001002 none)))], [.box true cs1q, .arr true (.int .i64), .arr true y25q], []⟩
def c173_0q (f : knot_Most_L0T) (d : I173_0q.den) : Option knot_Most_L0X := (u0_4 (f d.1.2.2.1.1 d.1.2.2.2.2.1.1 d.1.2.2.2.2.2.1.1) d.2.1) d.2.2.1 d.2.2.2.1
def L173_0q : LoopSum := ⟨[I173_0q], [(.exit 0, X0_173_0q)], knot_Most_L0X, fun k d => c173_0q (knot_Most_L0 k k) d, fun b x _ K => K (.exit 0) (stOf b X0_173_0q (((), (), (x.1, ()), (), ()), ((j1_4 x ()), x.2.2.2.2.2.1, x.2.2.2.2.2.2, ())))⟩
def I173_1q : Spec := ⟨[(3, .c (.lit (.ptr 1001000 0))), (6, .c (.lit (.osl 1001001 none))), (7, .c (.int .i64)), (8, .c (.lit (.osl 1001002 none))), (42, .c (.lit (.osl 1001003 none))), (43, .c (.int .i64)), (44, .c (.int .i64))], [.box true cs1q, .arr true (.int .i64), .arr true y25q, .arr true (.int .i64)], []⟩
def X0_173_1q : Spec := ⟨[(3, .c (.lit (.ptr 1001000 0))), (6, .c (.lit (.osl 1001001 none))), (7, .c (.int .i64)), (8, .c (.lit (.osl 1001002 none)))], [.box true cs1q, .arr true (.int .i64), .arr true y25q], []⟩
def c173_1q (f : knot_Most_L2T) (d : I173_1q.den) : Option knot_Most_L2X := (u0_4 (f d.1.2.2.1.1 d.1.2.2.2.2.2.1.1 d.1.2.2.2.2.2.2.1.1) d.2.1) d.2.2.1 d.2.2.2.1 d.2.2.2.2.1
def L173_1q : LoopSum := ⟨[I173_1q], [(.exit 4, X0_173_1q)], knot_Most_L2X, fun k d => c173_1q (knot_Most_L2 k k) d, fun b x _ K => K (.exit 4) (stOf b X0_173_1q (((), (), (x.1, ()), (), ()), ((j1_4 x ()), x.2.2.2.2.2.1, x.2.2.2.2.2.2, ())))⟩
def I173_2q : Spec := ⟨[(3, .c (.lit (.ptr 1001000 0))), (6, .c (.lit (.osl 1001001 none))), (7, .c (.int .i64)), (8, .c (.lit (.osl 1001002 none)))], [.box true cs1q, .arr true (.int .i64), .arr true y25q], []⟩
def X0_173_2q : Spec := ⟨[(6, .c (.lit (.osl 1001000 none))), (7, .c (.int .i64))], [.arr true (.int .i64)], []⟩
def c173_2q (f : knot_Most_L1T) (d : I173_2q.den) : Option (Int × (List Int)) := (u0_4 (f d.1.2.2.1.1) d.2.1) d.2.2.1 d.2.2.2.1
def L173_2q : LoopSum := ⟨[I173_2q], [(.ret, X0_173_2q)], (Int × (List Int)), fun k d => c173_2q (knot_Most_L1 k k) d, fun b x _ K => K .ret (stOf b X0_173_2q (((), (x.1, ()), ()), (x.2, ())))⟩
noncomputable def E173q : Env := ⟨prog, fun _ => false, sumsOf [R120q, R47q, R172q, R141q]⟩
def A173q : Notes := ⟨[], [(3, L173_0q), (12, L173_1q), (7, L173_2q)], [], false⟩
theorem B173q : EnvB E173q := env_n (l := [R120q, R47q, R172q, R141q]) mixed_orders ⟨F120q, F47q, F172q, F141q, trivial⟩
theorem lk173_0q : LoopOK prog 1000 0 55 (loopAt (bodyOf f307) 0) L173_0q := lp (A := A173q) L173_0q (fun d => (d.1.2.2.1.1, (j0_4 d.2.1 (d.2.2.1, d.2.2.2.1)))) c173_0q knot_Most_L0 knot_Most_L0b B173q loops0
theorem lk173_1q : LoopOK prog 1000 0 55 (loopAt (loopAt (bodyOf f307) 1) 0) L173_1q := lp (A := A173q) L173_1q (fun d => (d.1.2.2.1.1, (j0_4 d.2.1 (d.2.2.1, d.2.2.2.1)))) c173_1q knot_Most_L2 knot_Most_L2b B173q loops0
theorem lk173_2q : LoopOK prog 1000 0 55 (loopAt (bodyOf f307) 1) L173_2q := lp (A := A173q) L173_2q (fun d => (d.1.2.1.1, d.2.1)) c173_2q knot_Most_L1 knot_Most_L1b B173q (loops1 lk173_1q)
def R173q : Nat × Entry := entA 307 [.agg pc27q, .c (.dat false y25q), .c (.int .i64)] (.tup [(false, rc57q), (false, rc41q)]) (fun k d => (u0_6 (knot_Most k) d)) (fun x => (x.1, x.2, ()))
theorem F173q : FnOK prog R173q := fA (rs := .tup [(false, rc57q), (false, rc41q)]) f307 A173q (fun d => (d.1, d.2.1)) B173q (loopsOK_of (n := 2) (by kernel_rfl) fun i hi => match i, hi with | 0, _ => ⟨L173_0q, by kernel_rfl, lk173_0q⟩ | 1, _ => ⟨L173_2q, by kernel_rfl, lk173_2q⟩ | i + 2, hi => absurd hi (by omega))
def I174_0q : Spec := ⟨[(6, .c (.lit (.ptr 1001000 0))), (7, .c (.dat true y25q)), (11, .c (.lit (.osl 1001001 none))), (38, .c (.lit (.osl 1001001 none))), (39, .c (.int .i64)), (40, .c (.int .i64))], [.box true cs3q, .arr true y25q], []⟩
def X0_174_0q : Spec := ⟨[(6, .c (.lit (.ptr 1001000 0))), (7, .c (.dat true y25q)), (11, .c (.lit (.osl 1001001 none)))], [.box true cs3q, .arr true y25q], []⟩
def c174_0q (f : knot_Run_L0T) (d : I174_0q.den) : Option knot_Run_L0X := (u0_4 (f d.1.2.1.1 d.1.2.2.2.2.1.1 d.1.2.2.2.2.2.1.1) d.2.1) d.2.2.1
def L174_0q : LoopSum := ⟨[I174_0q], [(.exit 0, X0_174_0q)], knot_Run_L0X, fun k d => c174_0q (knot_Run_L0 k k) d, fun b x _ K => K (.exit 0) (stOf b X0_174_0q (((), (x.1, ()), (), ()), ((j1_4 x ()), x.2.2.2.2.2, ())))⟩
noncomputable def E174q : Env := ⟨prog, fun _ => false, sumsOf [R173q, R120q, R172q, R163q, R76q]⟩
def A174q : Notes := ⟨[], [(8, L174_0q)], [], false⟩
theorem B174q : EnvB E174q := env_n (l := [R173q, R120q, R172q, R163q, R76q]) mixed_orders ⟨F173q, F120q, F172q, F163q, F76q, trivial⟩
theorem lk174_0q : LoopOK prog 1000 0 56 (loopAt (bodyOf f275) 0) L174_0q := lp (A := A174q) L174_0q (fun d => (d.1.2.1.1, (j0_4 d.2.1 d.2.2.1))) c174_0q knot_Run_L0 knot_Run_L0b B174q loops0
def R174q : Nat × Entry := entA 275 [.agg pc28q, .c (.dat true y25q), .c (.int .i64)] (.tup [(true, rc40q), (false, [.fro y25q]), (false, [.own y25q])]) (fun k d => (u0_6 (knot_Run k) d)) (fun x => (f0_6 x ()))
theorem F174q : FnOK prog R174q := fA (rs := .tup [(true, rc40q), (false, [.fro y25q]), (false, [.own y25q])]) f275 A174q (fun d => (g0_6 d)) B174q (loops1 lk174_0q)
def R175q : Nat × Entry := entA 215 [.agg pc28q, .c (.dat true y25q), .c (.int .i64), .c (.bool)] (.tup [(true, rc40q), (false, [.fro y25q]), (false, [.own y25q])]) (fun k d => (u0_7 (settle_Run k) d)) (fun x => (f0_6 x ()))
theorem F175q : FnOK prog R175q := fA (rs := .tup [(true, rc40q), (false, [.fro y25q]), (false, [.own y25q])]) f215 ⟨[], [], [], false⟩ (fun d => (g0_6 d)) (env_n (l := [R168q, R174q]) mixed_orders ⟨F168q, F174q, trivial⟩) loops0
def I176_0q : Spec := ⟨[(3, .c (.lit (.osl 1001000 none))), (5, .c (.lit (.ptr 1001001 0))), (8, .c (.dat false y25q)), (9, .c (.int .i64)), (10, .c (.int .i64)), (18, .c (.lit (.osl 1001002 none))), (19, .c (.int .i64)), (20, .c (.int .i64))], [.arr true y26q, .box true cs10q, .arr true (.int .i64)], [(3, none, y26q, false)]⟩
def X0_176_0q : Spec := ⟨[(3, .c (.lit (.osl 1001000 none))), (8, .c (.dat false y25q)), (9, .c (.int .i64)), (10, .c (.int .i64))], [.arr true y26q], []⟩
def c176_0q (f : hour_Told_L1T) (d : I176_0q.den) : Option hour_Told_L1X := (u0_7 (f d.1.2.2.1.1 d.1.2.2.2.1.1 d.1.2.2.2.2.1.1 d.1.2.2.2.2.2.2.1.1 d.1.2.2.2.2.2.2.2.1.1 d.2.1) d.2.2.1) d.2.2.2.1
def L176_0q : LoopSum := ⟨[I176_0q], [(.exit 2, X0_176_0q)], hour_Told_L1X, fun k d => c176_0q (hour_Told_L1 k k) d, fun b x _ K => K (.exit 2) (stOf b X0_176_0q (((), (x.1, ()), (x.2.1, ()), (x.2.2.1, ()), ()), (x.2.2.2, ())))⟩
def I176_1q : Spec := ⟨[(3, .c (.lit (.osl 1001000 none))), (8, .c (.dat false y25q)), (9, .c (.int .i64)), (10, .c (.int .i64))], [.arr true y26q], [(3, none, y26q, false)]⟩
def X0_176_1q : Spec := ⟨[(3, .c (.lit (.osl 1001000 none)))], [.arr true y26q], []⟩
def c176_1q (f : hour_Told_L0T) (d : I176_1q.den) : Option hour_Told_L0X := f d.1.2.1.1 d.1.2.2.1.1 d.1.2.2.2.1.1 d.2.1
def L176_1q : LoopSum := ⟨[I176_1q], [(.exit 0, X0_176_1q)], hour_Told_L0X, fun k d => c176_1q (hour_Told_L0 k k) d, fun b x _ K => K (.exit 0) (stOf b X0_176_1q (((), ()), (x, ())))⟩
noncomputable def E176q : Env := ⟨prog, fun _ => false, sumsOf [R113q]⟩
def A176q : Notes := ⟨[], [(6, L176_0q), (3, L176_1q)], [], false⟩
theorem B176q : EnvB E176q := env_n (l := [R113q]) mixed_orders ⟨F113q, trivial⟩
theorem lk176_0q : LoopOK prog 1000 0 41 (loopAt (loopAt (bodyOf f216) 0) 0) L176_0q := lp (A := A176q) L176_0q (fun d => (d.1.2.1.1, d.1.2.2.1.1, d.1.2.2.2.1.1, d.2.1)) c176_0q hour_Told_L1 hour_Told_L1b B176q loops0
theorem lk176_1q : LoopOK prog 1000 0 41 (loopAt (bodyOf f216) 0) L176_1q := lp (A := A176q) L176_1q (fun d => d.2.1) c176_1q hour_Told_L0 hour_Told_L0b B176q (loops1 lk176_0q)
def R176q : Nat × Entry := entA 216 [.c (.dat false y25q)] (.c (.own y26q)) (fun k d => hour_Told k d.1) (fun x => (x, ()))
theorem F176q : FnOK prog R176q := fA (rs := .c (.own y26q)) f216 A176q (fun d => d.1) B176q (loops1 lk176_1q)
def R177q : Nat × Entry := entA 138 [.agg pc33q, .c (.bool)] (.tup [(true, rc42q), (false, [.own y26q])]) (fun k d => (u0_12 (hour_Settle k) d)) (fun x => (f0_12 x ()))
theorem F177q : FnOK prog R177q := fA (rs := .tup [(true, rc42q), (false, [.own y26q])]) f138 ⟨[], [], [], false⟩ (fun d => (g0_12 d)) (env_n (l := [R175q, R176q]) mixed_orders ⟨F175q, F176q, trivial⟩) loops0
def I178_0q : Spec := ⟨[(2, .c (.lit (.ptr 1001000 0))), (3, .c (.lit (.ptr 1001001 0))), (4, .c (.lit (.ptr 1001002 0))), (6, .c (.lit (.osl 1001003 none))), (7, .c (.lit (.osl 1001004 none))), (27, .c (.dat true y25q)), (28, .c (.int .i64)), (29, .c (.int .i64))], [.box true cs5q, .box true cs6q, .box true cs20q, .arr true y26q, .arr true y25q], [(6, none, y26q, false), (7, none, y25q, false)]⟩
def X0_178_0q : Spec := ⟨[(2, .c (.lit (.ptr 1001000 0))), (3, .c (.lit (.ptr 1001001 0))), (4, .c (.lit (.ptr 1001002 0))), (6, .c (.lit (.osl 1001003 none))), (7, .c (.lit (.osl 1001004 none)))], [.box true cs5q, .box true cs6q, .box true cs20q, .arr true y26q, .arr true y25q], []⟩
def c178_0q (f : hour_Tick_L0T) (d : I178_0q.den) : Option hour_Tick_L0X := (u0_11 (u0_5 (f d.1.2.2.2.2.2.1.1 d.1.2.2.2.2.2.2.1.1 d.1.2.2.2.2.2.2.2.1.1) d.2.1) d.2.2.1) d.2.2.2.1.1 d.2.2.2.1.2.1 d.2.2.2.1.2.2.1 d.2.2.2.2.1 d.2.2.2.2.2.1
def L178_0q : LoopSum := ⟨[I178_0q], [(.exit 0, X0_178_0q)], hour_Tick_L0X, fun k d => c178_0q (hour_Tick_L0 k k) d, fun b x _ K => K (.exit 0) (stOf b X0_178_0q (((), (), (), (), (), ()), ((j0_5 x ()), (j5_11 x ()), (x.2.2.2.2.2.2.2.2.2.2.2.2.2.2.2.2.1, x.2.2.2.2.2.2.2.2.2.2.2.2.2.2.2.2.2.1, x.2.2.2.2.2.2.2.2.2.2.2.2.2.2.2.2.2.2.1, ()), x.2.2.2.2.2.2.2.2.2.2.2.2.2.2.2.2.2.2.2.1, x.2.2.2.2.2.2.2.2.2.2.2.2.2.2.2.2.2.2.2.2, ())))⟩
noncomputable def E178q : Env := ⟨prog, fun _ => false, sumsOf [R112q, R114q, R115q, R113q, R116q, R177q]⟩
def A178q : Notes := ⟨[], [(9, L178_0q)], [], false⟩
theorem B178q : EnvB E178q := env_n (l := [R112q, R114q, R115q, R113q, R116q, R177q]) mixed_orders ⟨F112q, F114q, F115q, F113q, F116q, F177q, trivial⟩
theorem lk178_0q : LoopOK prog 1000 0 66 (loopAt (bodyOf f137) 0) L178_0q := lp (A := A178q) L178_0q (fun d => (j0_5 d.2.1 (j0_11 d.2.2.1 (d.2.2.2.1.1, d.2.2.2.1.2.1, d.2.2.2.1.2.2.1, d.2.2.2.2.1, d.2.2.2.2.2.1)))) c178_0q hour_Tick_L0 hour_Tick_L0b B178q loops0
def R178q : Nat × Entry := entA 137 [.agg pc31q, .agg pc33q] (.tup [(true, rc42q), (false, [.own y26q])]) (fun k d => (u0_16 (hour_Tick k) d)) (fun x => (f0_12 x ()))
theorem F178q : FnOK prog R178q := fA (rs := .tup [(true, rc42q), (false, [.own y26q])]) f137 A178q (fun d => (g0_12 d)) B178q (loops1 lk178_0q)
def R179q : Nat × Entry := entX 205 [.ptr true xc64q, .agg [.int .i64, .int .i64, .int .i64, .int .i64, .int .i64, .int .i64]] (.c (.int .i64)) [rc44q] 0 (fun k d => core_desk_pays_v2 k (g0_17 d) (g18_6 d)) (fun x => (x.1, (f0_18 x.2 ())))
theorem F179q : FnOK prog R179q := fX (rs := .c (.int .i64)) (os := [rc44q]) (ns := 0) f205 ⟨[], [], [], true⟩ 1 (fun d => (d.1, (g1_18 d))) (env_n (l := [R51q, R55q, R62q, R72q]) mixed_orders ⟨F51q, F55q, F62q, F72q, trivial⟩) loops0
def R180q : Nat × Entry := entX 206 [.ptr true xc64q, .agg pc36q] (.c (.int .i64)) [rc44q] 0 (fun k d => core_desk_waits_v2 k (g0_17 d) (g18_7 d)) (fun x => (x.1, (f0_18 x.2 ())))
theorem F180q : FnOK prog R180q := fX (rs := .c (.int .i64)) (os := [rc44q]) (ns := 0) f206 ⟨[], [], [], true⟩ 1 (fun d => (d.1, (g1_18 d))) (env_n (l := [R74q, R76q, R50q, R51q, R54q, R78q, R80q, R81q]) mixed_orders ⟨F74q, F76q, F50q, F51q, F54q, F78q, F80q, F81q, trivial⟩) loops0
def R181q : Nat × Entry := entX 207 [.ptr true xc64q, .agg pc36q] (.c (.int .i64)) [rc44q] 0 (fun k d => core_desk_limits_v2 k (g0_17 d) (g18_7 d)) (fun x => (x.1, (f0_18 x.2 ())))
theorem F181q : FnOK prog R181q := fX (rs := .c (.int .i64)) (os := [rc44q]) (ns := 0) f207 ⟨[], [], [], true⟩ 1 (fun d => (d.1, (g1_18 d))) (env_n (l := [R86q, R87q, R51q]) mixed_orders ⟨F86q, F87q, F51q, trivial⟩) loops0
def R182q : Nat × Entry := entX 208 [.ptr true xc64q, .c (.p (.int .i64)), .c (.p (.int .i64))] (.c (.int .i64)) [rc44q] 0 (fun k d => core_desk_holds_v2 k (g0_17 d) d.2.2.2.2.2.2.2.2.2.2.2.2.2.2.2.2.2.2.1 d.2.2.2.2.2.2.2.2.2.2.2.2.2.2.2.2.2.2.2.1) (fun x => (x.1, (f0_18 x.2 ())))
theorem F182q : FnOK prog R182q := fX (rs := .c (.int .i64)) (os := [rc44q]) (ns := 0) f208 ⟨[], [], [], true⟩ 1 (fun d => (d.1, (g1_18 d))) (env_n (l := [R89q, R51q, R90q, R91q, R100q, R86q]) mixed_orders ⟨F89q, F51q, F90q, F91q, F100q, F86q, trivial⟩) loops0
def R183q : Nat × Entry := entX 209 [.ptr true xc64q, .c (.p (.int .i64)), .c (.p (.int .i64)), .c (.p (.int .i64))] (.c (.int .i64)) [rc44q] 0 (fun k d => core_desk_moves_v2 k (g0_17 d) d.2.2.2.2.2.2.2.2.2.2.2.2.2.2.2.2.2.2.1 d.2.2.2.2.2.2.2.2.2.2.2.2.2.2.2.2.2.2.2.1 d.2.2.2.2.2.2.2.2.2.2.2.2.2.2.2.2.2.2.2.2.1) (fun x => (x.1, (f0_18 x.2 ())))
theorem F183q : FnOK prog R183q := fX (rs := .c (.int .i64)) (os := [rc44q]) (ns := 0) f209 ⟨[], [], [], true⟩ 1 (fun d => (d.1, (g1_18 d))) (env_n (l := [R51q, R105q, R107q, R108q, R86q]) mixed_orders ⟨F51q, F105q, F107q, F108q, F86q, trivial⟩) loops0
def I184_0q : Spec := ⟨[(0, .c (.lit (.ptr 1001000 0))), (7, .c (.lit (.osl 1001001 none))), (8, .c (.lit (.ptr 1001002 0))), (40, .c (.dat true (.sl (.int .i64)))), (41, .c (.int .i64)), (42, .c (.int .i64))], [.box true cs9q, .arr true (.int .i64), .box true cs22q, .arr true y14q, .mat, .arr true (.int .i64), .mat], []⟩
def X0_184_0q : Spec := ⟨[(0, .c (.lit (.ptr 1001000 0))), (7, .c (.lit (.osl 1001001 none))), (8, .c (.lit (.ptr 1001002 0)))], [.box true cs9q, .arr true (.int .i64), .box true cs22q, .arr true y14q, .mat, .arr true (.int .i64), .mat], []⟩
def X1_184_0q : Spec := ⟨[(0, .c (.lit (.ptr 1001000 0))), (6, .c (.int .i64))], [.box true cs9q], []⟩
def c184_0q (f : core_desk_price_v2_L0T) (d : I184_0q.den) : Option core_desk_price_v2_L0X := f d.1.2.2.2.1.1 d.1.2.2.2.2.1.1 d.1.2.2.2.2.2.1.1 (g0_17 d.2.1) d.2.2.1 d.2.2.2.2.1 d.2.2.2.2.2.1 d.2.2.2.2.2.2.1 d.2.2.2.2.2.2.2.1
def L184_0q : LoopSum := ⟨[I184_0q], [(.exit 0, X0_184_0q), (.ret, X1_184_0q)], core_desk_price_v2_L0X, fun k d => c184_0q (core_desk_price_v2_L0 k k) d, fun b x _ K => match x with | .inl x => K (.exit 0) (stOf b X0_184_0q (((), (), (), ()), ((f0_17 x.1 ()), x.2.1, (), x.2.2.1, x.2.2.2.1, x.2.2.2.2.1, x.2.2.2.2.2, ()))) | .inr x => K .ret (stOf b X1_184_0q (((), (x.1, ()), ()), ((f0_17 x.2 ()), ())))⟩
noncomputable def E184q : Env := ⟨prog, fun _ => false, sumsOf [R89q, R51q, R91q, R86q, R100q]⟩
def A184q : Notes := ⟨[], [(6, L184_0q)], [], true⟩
theorem B184q : EnvB E184q := env_n (l := [R89q, R51q, R91q, R86q, R100q]) mixed_orders ⟨F89q, F51q, F91q, F86q, F100q, trivial⟩
theorem lk184_0q : LoopOK prog 1000 1 81 (loopAt (bodyOf f210) 0) L184_0q := lp (A := A184q) L184_0q (fun d => match d with | .inl d => .inl ((g0_17 d.2.1), d.2.2.1, d.2.2.2.2.1, d.2.2.2.2.2.1, d.2.2.2.2.2.2.1, d.2.2.2.2.2.2.2.1) | .inr d => .inr (d.1.2.1.1, (g0_17 d.2.1))) c184_0q core_desk_price_v2_L0 core_desk_price_v2_L0b B184q loops0
def R184q : Nat × Entry := entX 210 [.ptr true xc64q, .c (.p (.int .i64)), .c (.p (.int .i64))] (.c (.int .i64)) [rc44q] 0 (fun k d => core_desk_price_v2 k (g0_17 d) d.2.2.2.2.2.2.2.2.2.2.2.2.2.2.2.2.2.2.1 d.2.2.2.2.2.2.2.2.2.2.2.2.2.2.2.2.2.2.2.1) (fun x => (x.1, (f0_18 x.2 ())))
theorem F184q : FnOK prog R184q := fX (rs := .c (.int .i64)) (os := [rc44q]) (ns := 0) f210 A184q 1 (fun d => (d.1, (g1_18 d))) B184q (loops1 lk184_0q)
def R185q : Nat × Entry := entX 136 [.ptr true xc64q, .agg pc36q] (.c (.int .i64)) [rc44q] 0 (fun k d => core_desk_does_v2 k (g0_17 d) (g18_7 d)) (fun x => (x.1, (f0_18 x.2 ())))
theorem F185q : FnOK prog R185q := fX (rs := .c (.int .i64)) (os := [rc44q]) (ns := 0) f136 ⟨[], [], [], true⟩ 1 (fun d => (d.1, (g1_18 d))) (env_n (l := [R179q, R180q, R181q, R182q, R183q, R184q]) mixed_orders ⟨F179q, F180q, F181q, F182q, F183q, F184q, trivial⟩) loops0
def R186q : Nat × Entry := entA 70 [.agg pc34q, .agg pc33q, .agg pc37q] (.tup [(true, rc42q), (false, [.own y26q]), (false, rc41q)]) (fun k d => core_Do k (g0_5 d) (g5_11 d) (g16_8 d)) (fun x => (f0_11 x.1 (x.2.1, x.2.2, ())))
theorem F186q : FnOK prog R186q := fA (rs := .tup [(true, rc42q), (false, [.own y26q]), (false, rc41q)]) f70 ⟨[], [], [], true⟩ (fun d => ((g0_11 d), d.2.2.2.2.2.2.2.2.2.2.2.1, d.2.2.2.2.2.2.2.2.2.2.2.2.1)) (env_n (l := [R44q, R49q, R50q, R111q, R178q, R177q, R65q, R77q, R185q]) mixed_orders ⟨F44q, F49q, F50q, F111q, F178q, F177q, F65q, F77q, F185q, trivial⟩) loops0
def R187q : Nat × Entry := entX 71 [.chn [xc60q, xc62q], .c (.p (.dat false (.int .u8)))] (.c (.int .i64)) [rc54q, rc49q] 0 (fun k d => log_Log_Save k (g1_4 d) (g5_10 d) d.2.2.2.2.2.2.2.2.2.2.2.2.2.2.2.1) (fun x => (x.1, (), (f0_4 x.2.1 (f0_10 x.2.2 ()))))
theorem F187q : FnOK prog R187q := fX (rs := .c (.int .i64)) (os := [rc54q, rc49q]) (ns := 0) f71 ⟨[], [], [], true⟩ 0 (fun d => (d.1, (g2_4 d), (g6_10 d))) (env_n (l := [R30q]) mixed_orders ⟨F30q, trivial⟩) loops0
def R188q : Nat × Entry := entA 192 [.c (.int .i64)] (.c (.bool)) (fun k d => core_isHeld_fn1 k d.1) (fun x => (x, ()))
theorem F188q : FnOK prog R188q := fA (rs := .c (.bool)) f192 ⟨[], [], [], true⟩ (fun d => d.1) (env_n (l := [R51q]) mixed_orders ⟨F51q, trivial⟩) loops0
def I189_0q : Spec := ⟨[(0, .c (.dat false (.int .i64))), (1, .c (.lit (.fn 192 []))), (7, .c (.int .i64)), (8, .c (.int .i64))], [], []⟩
def X0_189_0q : Spec := ⟨[], [], []⟩
def X1_189_0q : Spec := ⟨[(4, .c (.int .i64))], [], []⟩
def c189_0q (f : slices_IndexFunc_int64__core_isHeld_fn1_L0T) (d : I189_0q.den) : Option (Unit ⊕ Int) := f d.1.1.1 d.1.2.2.1.1 d.1.2.2.2.1.1
def L189_0q : LoopSum := ⟨[I189_0q], [(.exit 0, X0_189_0q), (.ret, X1_189_0q)], (Unit ⊕ Int), fun k d => c189_0q (slices_IndexFunc_int64__core_isHeld_fn1_L0 k k) d, fun b x _ K => match x with | .inl x => K (.exit 0) (stOf b X0_189_0q ((), ())) | .inr x => K .ret (stOf b X1_189_0q (((x, ()), ()), ()))⟩
noncomputable def E189q : Env := ⟨prog, fun _ => false, sumsOf [R188q]⟩
def A189q : Notes := ⟨[], [(2, L189_0q)], [], false⟩
theorem B189q : EnvB E189q := env_n (l := [R188q]) mixed_orders ⟨F188q, trivial⟩
theorem lk189_0q : LoopOK prog 1000 0 19 (loopAt (bodyOf f250) 0) L189_0q := lp (A := A189q) L189_0q (fun d => match d with | .inl d => .inl () | .inr d => .inr d.1.1.1) c189_0q slices_IndexFunc_int64__core_isHeld_fn1_L0 slices_IndexFunc_int64__core_isHeld_fn1_L0b B189q loops0
def R189q : Nat × Entry := entA 250 [.c (.dat false (.int .i64)), .c (.fn 192)] (.c (.int .i64)) (fun k d => slices_IndexFunc_int64__core_isHeld_fn1 k d.1) (fun x => (x, ()))
theorem F189q : FnOK prog R189q := fA (rs := .c (.int .i64)) f250 A189q (fun d => d.1) B189q (loops1 lk189_0q)
def R190q : Nat × Entry := entA 191 [.c (.dat false (.int .i64)), .c (.fn 192)] (.c (.bool)) (fun k d => slices_ContainsFunc_int64__core_isHeld_fn1 k d.1) (fun x => (x, ()))
theorem F190q : FnOK prog R190q := fA (rs := .c (.bool)) f191 ⟨[], [], [], false⟩ (fun d => d.1) (env_n (l := [R189q]) mixed_orders ⟨F189q, trivial⟩) loops0
def R191q : Nat × Entry := entA 194 [.c (.int .i64)] (.c (.bool)) (fun k d => core_isHeld_fn2 k d.1) (fun x => (x, ()))
theorem F191q : FnOK prog R191q := fA (rs := .c (.bool)) f194 ⟨[], [], [], true⟩ (fun d => d.1) (env_n (l := []) mixed_orders trivial) loops0
def I192_0q : Spec := ⟨[(0, .c (.dat false (.int .i64))), (1, .c (.lit (.fn 194 []))), (7, .c (.int .i64)), (8, .c (.int .i64))], [], []⟩
def X0_192_0q : Spec := ⟨[], [], []⟩
def X1_192_0q : Spec := ⟨[(4, .c (.int .i64))], [], []⟩
def c192_0q (f : slices_IndexFunc_int64__core_isHeld_fn2_L0T) (d : I192_0q.den) : Option (Unit ⊕ Int) := f d.1.1.1 d.1.2.2.1.1 d.1.2.2.2.1.1
def L192_0q : LoopSum := ⟨[I192_0q], [(.exit 0, X0_192_0q), (.ret, X1_192_0q)], (Unit ⊕ Int), fun k d => c192_0q (slices_IndexFunc_int64__core_isHeld_fn2_L0 k k) d, fun b x _ K => match x with | .inl x => K (.exit 0) (stOf b X0_192_0q ((), ())) | .inr x => K .ret (stOf b X1_192_0q (((x, ()), ()), ()))⟩
noncomputable def E192q : Env := ⟨prog, fun _ => false, sumsOf [R191q]⟩
def A192q : Notes := ⟨[], [(2, L192_0q)], [], false⟩
theorem B192q : EnvB E192q := env_n (l := [R191q]) mixed_orders ⟨F191q, trivial⟩
theorem lk192_0q : LoopOK prog 1000 0 19 (loopAt (bodyOf f250) 0) L192_0q := lp (A := A192q) L192_0q (fun d => match d with | .inl d => .inl () | .inr d => .inr d.1.1.1) c192_0q slices_IndexFunc_int64__core_isHeld_fn2_L0 slices_IndexFunc_int64__core_isHeld_fn2_L0b B192q loops0
def R192q : Nat × Entry := entA 250 [.c (.dat false (.int .i64)), .c (.fn 194)] (.c (.int .i64)) (fun k d => slices_IndexFunc_int64__core_isHeld_fn2 k d.1) (fun x => (x, ()))
theorem F192q : FnOK prog R192q := fA (rs := .c (.int .i64)) f250 A192q (fun d => d.1) B192q (loops1 lk192_0q)
def R193q : Nat × Entry := entA 191 [.c (.dat false (.int .i64)), .c (.fn 194)] (.c (.bool)) (fun k d => slices_ContainsFunc_int64__core_isHeld_fn2 k d.1) (fun x => (x, ()))
theorem F193q : FnOK prog R193q := fA (rs := .c (.bool)) f191 ⟨[], [], [], false⟩ (fun d => d.1) (env_n (l := [R192q]) mixed_orders ⟨F192q, trivial⟩) loops0
def I194_0q : Spec := ⟨[(2, .c (.lit (.ptr 1001000 0))), (3, .c (.lit (.ptr 1001001 0))), (28, .c (.dat false (.sl (.int .i64)))), (29, .c (.int .i64)), (30, .c (.int .i64))], [.box true cs5q, .box true cs4q], []⟩
def X0_194_0q : Spec := ⟨[], [], []⟩
def X1_194_0q : Spec := ⟨[(4, .c (.bool))], [], []⟩
def c194_0q (f : core_isHeld_L0T) (d : I194_0q.den) : Option (Unit ⊕ Bool) := f d.1.2.2.1.1 d.1.2.2.2.1.1 d.1.2.2.2.2.1.1 (g0_5 d.2.1) (g0_11 d.2.2.1)
def L194_0q : LoopSum := ⟨[I194_0q], [(.exit 0, X0_194_0q), (.ret, X1_194_0q)], (Unit ⊕ Bool), fun k d => c194_0q (core_isHeld_L0 k k) d, fun b x _ K => match x with | .inl x => K (.exit 0) (stOf b X0_194_0q ((), ())) | .inr x => K .ret (stOf b X1_194_0q (((x, ()), ()), ()))⟩
noncomputable def E194q : Env := ⟨prog, fun _ => false, sumsOf [R190q, R100q, R193q]⟩
def A194q : Notes := ⟨[], [(6, L194_0q)], [], true⟩
theorem B194q : EnvB E194q := env_n (l := [R190q, R100q, R193q]) mixed_orders ⟨F190q, F100q, F193q, trivial⟩
theorem lk194_0q : LoopOK prog 1000 0 66 (loopAt (bodyOf f129) 0) L194_0q := lp (A := A194q) L194_0q (fun d => match d with | .inl d => .inl () | .inr d => .inr d.1.1.1) c194_0q core_isHeld_L0 core_isHeld_L0b B194q loops0
def R194q : Nat × Entry := entA 129 [.agg pc31q, .agg pc30q] (.c (.bool)) (fun k d => core_isHeld k (g0_5 d) (g5_11 d)) (fun x => (x, ()))
theorem F194q : FnOK prog R194q := fA (rs := .c (.bool)) f129 A194q (fun d => d.1) B194q (loops1 lk194_0q)
def I195_0q : Spec := ⟨[(0, .c (.dat false y25q)), (1, .c (.lit (.fn 254 []))), (5, .c (.int .i64))], [], []⟩
def X0_195_0q : Spec := ⟨[], [], []⟩
def X1_195_0q : Spec := ⟨[(4, .c (.bool))], [], []⟩
def c195_0q (f : slices_IsSortedFunc_Pay__row_order_L0T) (d : I195_0q.den) : Option (Unit ⊕ Bool) := f d.1.1.1 d.1.2.2.1.1
def L195_0q : LoopSum := ⟨[I195_0q], [(.exit 0, X0_195_0q), (.ret, X1_195_0q)], (Unit ⊕ Bool), fun k d => c195_0q (slices_IsSortedFunc_Pay__row_order_L0 k k) d, fun b x _ K => match x with | .inl x => K (.exit 0) (stOf b X0_195_0q ((), ())) | .inr x => K .ret (stOf b X1_195_0q (((x, ()), ()), ()))⟩
noncomputable def E195q : Env := ⟨prog, fun _ => false, sumsOf [R69q]⟩
def A195q : Notes := ⟨[], [(2, L195_0q)], [], true⟩
theorem B195q : EnvB E195q := env_n (l := [R69q]) mixed_orders ⟨F69q, trivial⟩
theorem lk195_0q : LoopOK prog 1000 0 25 (loopAt (bodyOf f253) 0) L195_0q := lp (A := A195q) L195_0q (fun d => match d with | .inl d => .inl () | .inr d => .inr d.1.1.1) c195_0q slices_IsSortedFunc_Pay__row_order_L0 slices_IsSortedFunc_Pay__row_order_L0b B195q loops0
def R195q : Nat × Entry := entA 253 [.c (.dat false y25q), .c (.fn 254)] (.c (.bool)) (fun k d => slices_IsSortedFunc_Pay__row_order k d.1) (fun x => (x, ()))
theorem F195q : FnOK prog R195q := fA (rs := .c (.bool)) f253 A195q (fun d => d.1) B195q (loops1 lk195_0q)
def I196_0q : Spec := ⟨[(0, .c (.dat false y25q)), (5, .c (.dat false y25q)), (6, .c (.int .i64)), (7, .c (.int .i64))], [], []⟩
def X0_196_0q : Spec := ⟨[(0, .c (.dat false y25q))], [], []⟩
def X1_196_0q : Spec := ⟨[(2, .c (.bool))], [], []⟩
def c196_0q (f : row_Is_L0T) (d : I196_0q.den) : Option row_Is_L0X := f d.1.1.1 d.1.2.1.1 d.1.2.2.1.1 d.1.2.2.2.1.1
def L196_0q : LoopSum := ⟨[I196_0q], [(.exit 0, X0_196_0q), (.ret, X1_196_0q)], row_Is_L0X, fun k d => c196_0q (row_Is_L0 k k) d, fun b x _ K => match x with | .inl x => K (.exit 0) (stOf b X0_196_0q (((x, ()), ()), ())) | .inr x => K .ret (stOf b X1_196_0q (((x, ()), ()), ()))⟩
noncomputable def E196q : Env := ⟨prog, fun _ => false, sumsOf [R65q, R195q]⟩
def A196q : Notes := ⟨[], [(2, L196_0q)], [], false⟩
theorem B196q : EnvB E196q := env_n (l := [R65q, R195q]) mixed_orders ⟨F65q, F195q, trivial⟩
theorem lk196_0q : LoopOK prog 1000 0 26 (loopAt (bodyOf f198) 0) L196_0q := lp (A := A196q) L196_0q (fun d => match d with | .inl d => .inl d.1.1.1 | .inr d => .inr d.1.1.1) c196_0q row_Is_L0 row_Is_L0b B196q loops0
def R196q : Nat × Entry := entA 198 [.c (.dat false y25q)] (.c (.bool)) (fun k d => row_Is k d.1) (fun x => (x, ()))
theorem F196q : FnOK prog R196q := fA (rs := .c (.bool)) f198 A196q (fun d => d.1) B196q (loops1 lk196_0q)
def I197_0q : Spec := ⟨[(0, .c (.dat false (.int .i64))), (3, .c (.int .i64)), (6, .c (.dat false (.int .i64))), (7, .c (.int .i64)), (8, .c (.int .i64))], [], []⟩
def X0_197_0q : Spec := ⟨[(0, .c (.dat false (.int .i64)))], [], []⟩
def X1_197_0q : Spec := ⟨[(2, .c (.bool))], [], []⟩
def c197_0q (f : ids_Is_L0T) (d : I197_0q.den) : Option ((List Int) ⊕ Bool) := f d.1.1.1 d.1.2.1.1 d.1.2.2.1.1 d.1.2.2.2.1.1 d.1.2.2.2.2.1.1
def L197_0q : LoopSum := ⟨[I197_0q], [(.exit 0, X0_197_0q), (.ret, X1_197_0q)], ((List Int) ⊕ Bool), fun k d => c197_0q (ids_Is_L0 k k) d, fun b x _ K => match x with | .inl x => K (.exit 0) (stOf b X0_197_0q (((x, ()), ()), ())) | .inr x => K .ret (stOf b X1_197_0q (((x, ()), ()), ()))⟩
noncomputable def E197q : Env := ⟨prog, fun _ => false, sumsOf []⟩
def A197q : Notes := ⟨[], [(3, L197_0q)], [], true⟩
theorem B197q : EnvB E197q := env_n (l := []) mixed_orders trivial
theorem lk197_0q : LoopOK prog 1000 0 20 (loopAt (bodyOf f199) 0) L197_0q := lp (A := A197q) L197_0q (fun d => match d with | .inl d => .inl d.1.1.1 | .inr d => .inr d.1.1.1) c197_0q ids_Is_L0 ids_Is_L0b B197q loops0
def R197q : Nat × Entry := entA 199 [.c (.dat false (.int .i64))] (.c (.bool)) (fun k d => ids_Is k d.1) (fun x => (x, ()))
theorem F197q : FnOK prog R197q := fA (rs := .c (.bool)) f199 A197q (fun d => d.1) B197q (loops1 lk197_0q)
def R198q : Nat × Entry := entA 197 [.c (.dat false (.int .i64)), .c (.int .i64)] (.c (.bool)) (fun k d => ids_Has k d.1 d.2.1) (fun x => (x, ()))
theorem F198q : FnOK prog R198q := fA (rs := .c (.bool)) f197 ⟨[], [], [], true⟩ (fun d => d.1) (env_n (l := [R59q]) mixed_orders ⟨F59q, trivial⟩) loops0
def R199q : Nat × Entry := entA 195 [.agg pc36q, .ptr pc30q] (.c (.bool)) (fun k d => core_isWaiting_fn1 k (g0_7 d) (g7_11 d)) (fun x => (x, ()))
theorem F199q : FnOK prog R199q := fA (rs := .c (.bool)) f195 ⟨[], [], [], true⟩ (fun d => d.1) (env_n (l := [R127q, R51q, R198q]) mixed_orders ⟨F127q, F51q, F198q, trivial⟩) loops0
def I200_0q : Spec := ⟨[(0, .c (.dat false y25q)), (1, .c (.lit (.fn 195 [1001000]))), (7, .c (.int .i64)), (8, .c (.int .i64))], [.robox cs4q], []⟩
def X0_200_0q : Spec := ⟨[], [], []⟩
def X1_200_0q : Spec := ⟨[(4, .c (.int .i64))], [], []⟩
def c200_0q (f : slices_IndexFunc_Pay__core_isWaiting_fn1_L0T) (d : I200_0q.den) : Option (Unit ⊕ Int) := (u0_11 (f d.1.1.1 d.1.2.2.1.1 d.1.2.2.2.1.1) d.2.1)
def L200_0q : LoopSum := ⟨[I200_0q], [(.exit 0, X0_200_0q), (.ret, X1_200_0q)], (Unit ⊕ Int), fun k d => c200_0q (slices_IndexFunc_Pay__core_isWaiting_fn1_L0 k k) d, fun b x _ K => match x with | .inl x => K (.exit 0) (stOf b X0_200_0q ((), ())) | .inr x => K .ret (stOf b X1_200_0q (((x, ()), ()), ()))⟩
noncomputable def E200q : Env := ⟨prog, fun _ => false, sumsOf [R199q]⟩
def A200q : Notes := ⟨[], [(2, L200_0q)], [], false⟩
theorem B200q : EnvB E200q := env_n (l := [R199q]) mixed_orders ⟨F199q, trivial⟩
theorem lk200_0q : LoopOK prog 1000 0 19 (loopAt (bodyOf f217) 0) L200_0q := lp (A := A200q) L200_0q (fun d => match d with | .inl d => .inl () | .inr d => .inr d.1.1.1) c200_0q slices_IndexFunc_Pay__core_isWaiting_fn1_L0 slices_IndexFunc_Pay__core_isWaiting_fn1_L0b B200q loops0
def R200q : Nat × Entry := entA 217 [.c (.dat false y25q), .fn 195 [pc30q]] (.c (.int .i64)) (fun k d => (u0_12 (slices_IndexFunc_Pay__core_isWaiting_fn1 k) d)) (fun x => (x, ()))
theorem F200q : FnOK prog R200q := fA (rs := .c (.int .i64)) f217 A200q (fun d => d.1) B200q (loops1 lk200_0q)
def R201q : Nat × Entry := entA 200 [.c (.dat false y25q), .fn 195 [pc30q]] (.c (.bool)) (fun k d => (u0_12 (slices_ContainsFunc_Pay__core_isWaiting_fn1 k) d)) (fun x => (x, ()))
theorem F201q : FnOK prog R201q := fA (rs := .c (.bool)) f200 ⟨[], [], [], false⟩ (fun d => d.1) (env_n (l := [R200q]) mixed_orders ⟨F200q, trivial⟩) loops0
def R202q : Nat × Entry := entA 130 [.agg pc30q] (.c (.bool)) (fun k d => core_isWaiting k (g0_11 d)) (fun x => (x, ()))
theorem F202q : FnOK prog R202q := fA (rs := .c (.bool)) f130 ⟨[], [], [], true⟩ (fun d => d.1) (env_n (l := [R196q, R197q, R201q]) mixed_orders ⟨F196q, F197q, F201q, trivial⟩) loops0
def I203_0q : Spec := ⟨[(2, .c (.lit (.ptr 1001000 0))), (3, .c (.lit (.ptr 1001001 0))), (5, .c (.lit (.osl 1001002 none))), (44, .c (.dat false y14q)), (45, .c (.int .i64)), (46, .c (.int .i64))], [.box true cs5q, .box true cs4q, .arr true (.int .i64)], [(5, none, (.int .i64), false)]⟩
def X0_203_0q : Spec := ⟨[(2, .c (.lit (.ptr 1001000 0))), (3, .c (.lit (.ptr 1001001 0))), (5, .c (.lit (.osl 1001002 none)))], [.box true cs5q, .box true cs4q, .arr true (.int .i64)], []⟩
def c203_0q (f : core_Is_L0T) (d : I203_0q.den) : Option core_Is_L0X := f d.1.2.2.2.1.1 d.1.2.2.2.2.1.1 d.1.2.2.2.2.2.1.1 (g0_5 d.2.1) (g0_11 d.2.2.1) d.2.2.2.1
def L203_0q : LoopSum := ⟨[I203_0q], [(.exit 0, X0_203_0q)], core_Is_L0X, fun k d => c203_0q (core_Is_L0 k k) d, fun b x _ K => K (.exit 0) (stOf b X0_203_0q (((), (), (), ()), ((f0_5 x.1 ()), (f0_11 x.2.1 ()), x.2.2, ())))⟩
noncomputable def E203q : Env := ⟨prog, fun _ => false, sumsOf [R51q, R162q, R194q, R202q, R99q, R112q]⟩
def A203q : Notes := ⟨[], [(5, L203_0q)], [], true⟩
theorem B203q : EnvB E203q := env_n (l := [R51q, R162q, R194q, R202q, R99q, R112q]) mixed_orders ⟨F51q, F162q, F194q, F202q, F99q, F112q, trivial⟩
theorem lk203_0q : LoopOK prog 1000 0 92 (loopAt (bodyOf f68) 0) L203_0q := lp (A := A203q) L203_0q (fun d => ((g0_5 d.2.1), (g0_11 d.2.2.1), d.2.2.2.1)) c203_0q core_Is_L0 core_Is_L0b B203q loops0
def R203q : Nat × Entry := entA 68 [.agg pc31q, .agg pc30q] (.c (.bool)) (fun k d => core_Is k (g0_5 d) (g5_11 d)) (fun x => (x, ()))
theorem F203q : FnOK prog R203q := fA (rs := .c (.bool)) f68 A203q (fun d => d.1) B203q (loops1 lk203_0q)
def I204_0q : Spec := ⟨[(1, .c (.lit (.ptr 1001000 0))), (2, .c (.int .i64)), (3, .c (.lit (.ptr 1001003 0))), (12, .c (.bool)), (13, .c (.lit (.ptr 1001004 0))), (17, .c (.lit (.ptr 1001005 0))), (72, .c (.dat true (.sl (.int .u8)))), (73, .c (.int .i64)), (74, .c (.int .i64))], [.box true cs13q, .arr true (.int .u8), .arr true (.int .u8), .box true cs7q, .box true [.lit (.ptr 1001000 0), .int .i64, .int .i64, .int .i64, .bool], .box true cs6q], [(17, some 1, .bool, true), (17, some 2, .bool, true), (17, some 3, .bool, true), (17, some 4, .bool, true), (17, some 5, .bool, true), (17, some 6, .bool, true), (17, some 7, .bool, true), (17, some 8, .bool, true)]⟩
def X0_204_0q : Spec := ⟨[(1, .c (.lit (.ptr 1001000 0))), (2, .c (.int .i64)), (3, .c (.lit (.ptr 1001003 0))), (12, .c (.bool)), (13, .c (.lit (.ptr 1001004 0))), (17, .c (.lit (.ptr 1001005 0)))], [.box true cs13q, .arr true (.int .u8), .arr true (.int .u8), .box true cs7q, .box true [.lit (.ptr 1001000 0), .int .i64, .int .i64, .int .i64, .bool], .box true cs6q], []⟩
def c204_0q (f : gate_Open_L0T) (d : I204_0q.den) : Option gate_Open_L0X := f d.1.2.1.1 d.1.2.2.2.1.1 d.1.2.2.2.2.2.2.1.1 d.1.2.2.2.2.2.2.2.1.1 d.1.2.2.2.2.2.2.2.2.1.1 (g0_8 d.2.1) d.2.2.1 d.2.2.2.1 (g0_5 d.2.2.2.2.1) (g0_4 d.2.2.2.2.2.1) (g0_11 d.2.2.2.2.2.2.1)
def L204_0q : LoopSum := ⟨[I204_0q], [(.exit 0, X0_204_0q)], gate_Open_L0X, fun k d => c204_0q (gate_Open_L0 k k) d, fun b x _ K => K (.exit 0) (stOf b X0_204_0q (((), (x.1, ()), (), (x.2.1, ()), (), (), ()), ((f0_8 x.2.2.1 ()), x.2.2.2.1, x.2.2.2.2.1, (f0_5 x.2.2.2.2.2.1 ()), (f0_4 x.2.2.2.2.2.2.1 ()), (f0_11 x.2.2.2.2.2.2.2 ()), ())))⟩
noncomputable def E204q : Env := ⟨prog, fun _ => false, sumsOf [R6q, R13q, R17q, R22q, R31q, R37q, R40q, R186q, R187q, R203q]⟩
def A204q : Notes := ⟨[], [(11, L204_0q)], [], true⟩
theorem B204q : EnvB E204q := env_n (l := [R6q, R13q, R17q, R22q, R31q, R37q, R40q, R186q, R187q, R203q]) mixed_orders ⟨F6q, F13q, F17q, F22q, F31q, F37q, F40q, F186q, F187q, F203q, trivial⟩
theorem lk204_0q : LoopOK prog 1000 2 112 (loopAt (bodyOf f17) 0) L204_0q := lp (A := A204q) L204_0q (fun d => (d.1.2.1.1, d.1.2.2.2.1.1, (g0_8 d.2.1), d.2.2.1, d.2.2.2.1, (g0_5 d.2.2.2.2.1), (g0_4 d.2.2.2.2.2.1), (g0_11 d.2.2.2.2.2.2.1))) c204_0q gate_Open_L0 gate_Open_L0b B204q loops0
def R204q : Nat × Entry := entN 17 [.agg pc34q, .ptr true xc62q, .c (.p (.int .i64))] (.tup [(false, [.link 1]), (false, rc41q)]) [rc49q, rc55q, rc52q] 2 (.tup [(false, [.nilp]), (false, rc41q)]) [rc49q] 0 (fun k d => gate_Open k (g0_5 d) (g5_10 d) d.2.2.2.2.2.2.2.2.2.2.2.2.2.2.2.1) (fun x => ((), x.1, (f0_10 x.2.1 ((), (f0_18 x.2.2.1 ((), (f0_4 x.2.2.2 ()))))))) (fun x => ((), x.1, (f0_10 x.2 ())))
theorem F204q : FnOK prog R204q := fN (rs := .tup [(false, [.link 1]), (false, rc41q)]) (os := [rc49q, rc55q, rc52q]) (ns := 2) (rs2 := .tup [(false, [.nilp]), (false, rc41q)]) (os2 := [rc49q]) (ns2 := 0) f17 A204q 2 (fun d => (d.2.1, (g2_10 d), (g13_18 d), (g32_4 d))) (fun d => (d.2.1, (g2_10 d))) B204q (loops1 lk204_0q)
def I205_0q : Spec := ⟨[(0, .c (.int .i64)), (1, .c (.int .i64)), (5, .c (.lit (.osl 1001000 none))), (6, .c (.int .i64))], [.arr true (.int .i64)], []⟩
def X0_205_0q : Spec := ⟨[(5, .c (.lit (.osl 1001000 none)))], [.arr true (.int .i64)], []⟩
def c205_0q (f : giroref10_Row_L0T) (d : I205_0q.den) : Option (List Int) := f d.1.1.1 d.1.2.1.1 d.1.2.2.2.1.1 d.2.1
def L205_0q : LoopSum := ⟨[I205_0q], [(.exit 0, X0_205_0q)], (List Int), fun k d => c205_0q (giroref10_Row_L0 k k) d, fun b x _ K => K (.exit 0) (stOf b X0_205_0q (((), ()), (x, ())))⟩
noncomputable def E205q : Env := ⟨prog, fun _ => false, sumsOf []⟩
def A205q : Notes := ⟨[], [(5, L205_0q)], [], false⟩
theorem B205q : EnvB E205q := env_n (l := []) mixed_orders trivial
theorem lk205_0q : LoopOK prog 1000 0 25 (loopAt (bodyOf f73) 0) L205_0q := lp (A := A205q) L205_0q (fun d => d.2.1) c205_0q giroref10_Row_L0 giroref10_Row_L0b B205q loops0
def R205q : Nat × Entry := entA 73 [.c (.int .i64), .c (.int .i64)] (.c (.own (.int .i64))) (fun k d => giroref10_Row k d.1 d.2.1) (fun x => (x, ()))
theorem F205q : FnOK prog R205q := fA (rs := .c (.own (.int .i64))) f73 A205q (fun d => d.1) B205q (loops1 lk205_0q)
def I206_0q : Spec := ⟨[(0, .c (.int .i64)), (1, .c (.int .i64)), (5, .c (.lit (.osl 1001000 none))), (6, .c (.int .i64))], [.mat], [(5, none, (.sl (.int .i64)), true)]⟩
def X0_206_0q : Spec := ⟨[(5, .c (.lit (.osl 1001000 none)))], [.mat], []⟩
def c206_0q (f : giroref10_Square_L0T) (d : I206_0q.den) : Option (List (List Int)) := f d.1.1.1 d.1.2.1.1 d.1.2.2.2.1.1 d.2.1
def L206_0q : LoopSum := ⟨[I206_0q], [(.exit 0, X0_206_0q)], (List (List Int)), fun k d => c206_0q (giroref10_Square_L0 k k) d, fun b x _ K => K (.exit 0) (stOf b X0_206_0q (((), ()), (x, ())))⟩
noncomputable def E206q : Env := ⟨prog, fun _ => false, sumsOf [R205q]⟩
def A206q : Notes := ⟨[22, 23], [(5, L206_0q)], [], false⟩
theorem B206q : EnvB E206q := env_n (l := [R205q]) mixed_orders ⟨F205q, trivial⟩
theorem lk206_0q : LoopOK prog 1000 0 25 (loopAt (bodyOf f72) 0) L206_0q := lp (A := A206q) L206_0q (fun d => d.2.1) c206_0q giroref10_Square_L0 giroref10_Square_L0b B206q loops0
def R206q : Nat × Entry := entA 72 [.c (.int .i64), .c (.int .i64)] (.c (.mat)) (fun k d => giroref10_Square k d.1 d.2.1) (fun x => (x, ()))
theorem F206q : FnOK prog R206q := fA (rs := .c (.mat)) f72 A206q (fun d => d.1) B206q (loops1 lk206_0q)
def I207_0q : Spec := ⟨[(1, .c (.lit (.ptr 1001000 0))), (2, .c (.lit (.ptr 1001001 0))), (3, .c (.int .i64)), (4, .c (.lit (.ptr 1001002 0))), (5, .c (.int .i64))], [.box true cs5q, .box true cs20q, .box true cs18q, .arr true y14q, .mat, .arr true (.int .i64), .mat, .arr true (.int .i64)], [(4, some 5, (.int .i64), false)]⟩
def X0_207_0q : Spec := ⟨[(1, .c (.lit (.ptr 1001000 0))), (2, .c (.lit (.ptr 1001001 0))), (3, .c (.int .i64)), (4, .c (.lit (.ptr 1001002 0)))], [.box true cs5q, .box true cs20q, .box true cs18q, .arr true y14q, .mat, .arr true (.int .i64), .mat, .arr true (.int .i64)], []⟩
def c207_0q (f : giroref23_New_L0T) (d : I207_0q.den) : Option giroref23_New_L0X := f d.1.2.2.1.1 d.1.2.2.2.2.1.1 (g0_5 d.2.1) (d.2.2.1.1, d.2.2.1.2.1, d.2.2.1.2.2.1) (d.2.2.2.1.1, d.2.2.2.1.2.1, d.2.2.2.1.2.2.1) d.2.2.2.2.1 d.2.2.2.2.2.1 d.2.2.2.2.2.2.1 d.2.2.2.2.2.2.2.1 d.2.2.2.2.2.2.2.2.1
def L207_0q : LoopSum := ⟨[I207_0q], [(.exit 0, X0_207_0q)], giroref23_New_L0X, fun k d => c207_0q (giroref23_New_L0 k k) d, fun b x _ K => K (.exit 0) (stOf b X0_207_0q (((), (), (x.1, ()), (), ()), ((f0_5 x.2.1 ()), (x.2.2.1.1, x.2.2.1.2.1, x.2.2.1.2.2, ()), (x.2.2.2.1.1, x.2.2.2.1.2.1, x.2.2.2.1.2.2, ()), x.2.2.2.2.1, x.2.2.2.2.2.1, x.2.2.2.2.2.2.1, x.2.2.2.2.2.2.2.1, x.2.2.2.2.2.2.2.2, ())))⟩
def I207_1q : Spec := ⟨[(1, .c (.lit (.ptr 1001000 0))), (2, .c (.lit (.ptr 1001001 0))), (3, .c (.int .i64)), (4, .c (.lit (.ptr 1001002 0))), (6, .c (.int .i64))], [.box true cs5q, .box true cs20q, .box true cs17q, .arr true y14q, .mat, .arr true (.int .i64), .mat, .arr true (.int .i64), .mat], [(4, some 6, (.sl (.int .i64)), true)]⟩
def X0_207_1q : Spec := ⟨[(2, .c (.lit (.ptr 1001000 0))), (4, .c (.lit (.ptr 1001001 0)))], [.box true cs20q, .box true cs14q, .arr true y14q, .mat, .arr true (.int .i64), .mat, .arr true (.int .i64), .mat], []⟩
def c207_1q (f : giroref23_New_L1T) (d : I207_1q.den) : Option giroref23_New_L1X := f d.1.2.2.1.1 d.1.2.2.2.2.1.1 (g0_5 d.2.1) (d.2.2.1.1, d.2.2.1.2.1, d.2.2.1.2.2.1) (d.2.2.2.1.1, d.2.2.2.1.2.1, d.2.2.2.1.2.2.1) d.2.2.2.2.1 d.2.2.2.2.2.1 d.2.2.2.2.2.2.1 d.2.2.2.2.2.2.2.1 d.2.2.2.2.2.2.2.2.1 d.2.2.2.2.2.2.2.2.2.1
def L207_1q : LoopSum := ⟨[I207_1q], [(.exit 2, X0_207_1q)], giroref23_New_L1X, fun k d => c207_1q (giroref23_New_L1 k k) d, fun b x _ K => K (.exit 2) (stOf b X0_207_1q (((), (), ()), ((x.1.1, x.1.2.1, x.1.2.2, ()), (x.2.1.1, x.2.1.2.1, x.2.1.2.2, ()), x.2.2.1, x.2.2.2.1, x.2.2.2.2.1, x.2.2.2.2.2.1, x.2.2.2.2.2.2.1, x.2.2.2.2.2.2.2, ())))⟩
noncomputable def E207q : Env := ⟨prog, fun _ => false, sumsOf [R206q, R205q]⟩
def A207q : Notes := ⟨[48, 49], [(4, L207_0q), (8, L207_1q)], [], true⟩
theorem B207q : EnvB E207q := env_n (l := [R206q, R205q]) mixed_orders ⟨F206q, F205q, trivial⟩
theorem lk207_0q : LoopOK prog 1000 0 52 (loopAt (bodyOf f18) 0) L207_0q := lp (A := A207q) L207_0q (fun d => (d.1.2.2.1.1, (g0_5 d.2.1), (d.2.2.1.1, d.2.2.1.2.1, d.2.2.1.2.2.1), (d.2.2.2.1.1, d.2.2.2.1.2.1, d.2.2.2.1.2.2.1), d.2.2.2.2.1, d.2.2.2.2.2.1, d.2.2.2.2.2.2.1, d.2.2.2.2.2.2.2.1, d.2.2.2.2.2.2.2.2.1)) c207_0q giroref23_New_L0 giroref23_New_L0b B207q loops0
theorem lk207_1q : LoopOK prog 1000 0 52 (loopAt (bodyOf f18) 1) L207_1q := lp (A := A207q) L207_1q (fun d => ((d.2.1.1, d.2.1.2.1, d.2.1.2.2.1), (d.2.2.1.1, d.2.2.1.2.1, d.2.2.1.2.2.1), d.2.2.2.1, d.2.2.2.2.1, d.2.2.2.2.2.1, d.2.2.2.2.2.2.1, d.2.2.2.2.2.2.2.1, d.2.2.2.2.2.2.2.2.1)) c207_1q giroref23_New_L1 giroref23_New_L1b B207q loops0
def R207q : Nat × Entry := entA 18 [.agg pc31q] (.agg rc50q) (fun k d => giroref23_New k (g0_5 d)) (fun x => (f0_11 x ()))
theorem F207q : FnOK prog R207q := fA (rs := .agg rc50q) f18 A207q (fun d => (g0_11 d)) B207q (loopsOK_of (n := 2) (by kernel_rfl) fun i hi => match i, hi with | 0, _ => ⟨L207_0q, by kernel_rfl, lk207_0q⟩ | 1, _ => ⟨L207_1q, by kernel_rfl, lk207_1q⟩ | i + 2, hi => absurd hi (by omega))
def R208q : Nat × Entry := entA 75 [.c (.int .i64)] (.c (.int .i64)) (fun k d => giroref3_Many k d.1) (fun x => (x, ()))
theorem F208q : FnOK prog R208q := fA (rs := .c (.int .i64)) f75 ⟨[], [], [], true⟩ (fun d => d.1) (env_n (l := []) mixed_orders trivial) loops0
def R212q : Nat × Entry := entX 26 [.chn [xc59q, xc61q, xc62q]] (.c (.bool)) [rc53q, rc56q, rc49q] 0 (fun k d => gate_Gate_Down k (g1_18 d) (g20_4 d) (g24_10 d)) (fun x => (x.1, (), (f0_18 x.2.1 ((), (f0_4 x.2.2.1 (f0_10 x.2.2.2 ()))))))
theorem F212q : FnOK prog R212q := fX (rs := .c (.bool)) (os := [rc53q, rc56q, rc49q]) (ns := 0) f26 ⟨[], [], [], true⟩ 0 (fun d => (d.1, (g2_18 d), (g21_4 d), (g25_10 d))) (env_n (l := []) mixed_orders trivial) loops0
def R213q : Nat × Entry := entA 77 [.c (.int .i64), .c (.int .i64)] (.c (.own y26q)) (fun k d => gate_wrong k d.1 d.2.1) (fun x => (x, ()))
theorem F213q : FnOK prog R213q := fA (rs := .c (.own y26q)) f77 ⟨[], [], [], true⟩ (fun d => d.1) (env_n (l := []) mixed_orders trivial) loops0
def R214q : Nat × Entry := entA 142 [.agg pc36q] (.c (.own (.int .u8))) (fun k d => msg_Bytes k (g0_7 d)) (fun x => (x, ()))
theorem F214q : FnOK prog R214q := fA (rs := .c (.own (.int .u8))) f142 ⟨[1], [], [], true⟩ (fun d => d.1) (env_n (l := [R43q, R38q, R19q]) mixed_orders ⟨F43q, F38q, F19q, trivial⟩) loops0
def R215q : Nat × Entry := entA 79 [.agg pc37q] (.c (.own (.int .u8))) (fun k d => msg_Cmd k (g0_8 d)) (fun x => (x, ()))
theorem F215q : FnOK prog R215q := fA (rs := .c (.own (.int .u8))) f79 ⟨[], [], [], true⟩ (fun d => d.1) (env_n (l := [R214q, R19q]) mixed_orders ⟨F214q, F19q, trivial⟩) loops0
def R216q : Nat × Entry := entX 141 [.chn [xc60q, xc62q], .c (.p (.dat false (.int .u8)))] (.c (.int .i64)) [rc54q, rc49q] 0 (fun k d => log_Log_Add k (g1_4 d) (g5_10 d) d.2.2.2.2.2.2.2.2.2.2.2.2.2.2.2.1) (fun x => (x.1, (), (f0_4 x.2.1 (f0_10 x.2.2 ()))))
theorem F216q : FnOK prog R216q := fX (rs := .c (.int .i64)) (os := [rc54q, rc49q]) (ns := 0) f141 ⟨[], [], [], true⟩ 0 (fun d => (d.1, (g2_4 d), (g6_10 d))) (env_n (l := [R23q, R28q, R29q]) mixed_orders ⟨F23q, F28q, F29q, trivial⟩) loops0
def R217q : Nat × Entry := entX 78 [.chn [xc59q, xc61q, xc62q], .c (.p (.dat false (.int .u8)))] (.c (.int .i64)) [rc53q, rc56q, rc49q] 0 (fun k d => gate_Gate_keeps k (g1_18 d) (g20_4 d) (g24_10 d) d.2.2.2.2.2.2.2.2.2.2.2.2.2.2.2.2.2.2.2.2.2.2.2.2.2.2.2.2.2.2.2.2.2.2.1) (fun x => (x.1, (), (f0_18 x.2.1 ((), (f0_4 x.2.2.1 (f0_10 x.2.2.2 ()))))))
theorem F217q : FnOK prog R217q := fX (rs := .c (.int .i64)) (os := [rc53q, rc56q, rc49q]) (ns := 0) f78 ⟨[], [], [], true⟩ 0 (fun d => (d.1, (g2_18 d), (g21_4 d), (g25_10 d))) (env_n (l := [R216q, R22q, R187q]) mixed_orders ⟨F216q, F22q, F187q, trivial⟩) loops0
def R218q : Nat × Entry := entX 80 [.chn [xc60q, xc62q]] (.c (.int .i64)) [rc54q, rc49q] 0 (fun k d => log_Log_Rows k (g1_4 d) (g5_10 d)) (fun x => (x.1, (), (f0_4 x.2.1 (f0_10 x.2.2 ()))))
theorem F218q : FnOK prog R218q := fX (rs := .c (.int .i64)) (os := [rc54q, rc49q]) (ns := 0) f80 ⟨[], [], [], true⟩ 0 (fun d => (d.1, (g2_4 d), (g6_10 d))) (env_n (l := []) mixed_orders trivial) loops0
def R219q : Nat × Entry := entX 20 [.chn [xc59q, xc61q, xc62q], .c (.p (.int .i64)), .c (.p (.dat false (.int .u8)))] (.c (.own y26q)) [rc53q, rc56q, rc49q] 0 (fun k d => gate_Gate_Do k (g1_18 d) (g20_4 d) (g24_10 d) d.2.2.2.2.2.2.2.2.2.2.2.2.2.2.2.2.2.2.2.2.2.2.2.2.2.2.2.2.2.2.2.2.2.2.1 d.2.2.2.2.2.2.2.2.2.2.2.2.2.2.2.2.2.2.2.2.2.2.2.2.2.2.2.2.2.2.2.2.2.2.2.1) (fun x => (x.1, (), (f0_18 x.2.1 ((), (f0_4 x.2.2.1 (f0_10 x.2.2.2 ()))))))
theorem F219q : FnOK prog R219q := fX (rs := .c (.own y26q)) (os := [rc53q, rc56q, rc49q]) (ns := 0) f20 ⟨[], [], [], true⟩ 0 (fun d => (d.1, (g2_18 d), (g21_4 d), (g25_10 d))) (env_n (l := [R212q, R39q, R213q, R186q, R215q, R217q, R218q, R22q, R187q]) mixed_orders ⟨F212q, F39q, F213q, F186q, F215q, F217q, F218q, F22q, F187q, trivial⟩) loops0
def R220q : Nat × Entry := entA 26 [.c (.nilp)] (.c (.bool)) (fun k d => gate_Gate_Down_v2 k) (fun x => (x, ()))
theorem F220q : FnOK prog R220q := fA (rs := .c (.bool)) f26 ⟨[], [], [], true⟩ (fun d => d.1) (env_n (l := []) mixed_orders trivial) loops0
def R221q : Nat × Entry := entA 20 [.c (.nilp), .c (.int .i64), .c (.dat false (.int .u8))] (.c (.own y26q)) (fun k d => gate_Gate_Do_v2 k d.2.1 d.2.2.1) (fun x => (x, ()))
theorem F221q : FnOK prog R221q := fA (rs := .c (.own y26q)) f20 ⟨[], [], [], true⟩ (fun d => d.1) (env_n (l := [R220q, R39q, R213q]) mixed_orders ⟨F220q, F39q, F213q, trivial⟩) loops0
def I222_0q : Spec := ⟨[(1, .c (.dat false (.int .i64))), (4, .c (.lit (.ptr 1001000 0))), (5, .c (.lit (.ptr 1001001 0))), (6, .c (.int .i64))], [.box true cs10q, .box true cs10q], []⟩
def X0_222_0q : Spec := ⟨[(4, .c (.lit (.ptr 1001000 0))), (5, .c (.lit (.ptr 1001001 0)))], [.box true cs10q, .box true cs10q], []⟩
def c222_0q (f : giroref3_Of_L0T) (d : I222_0q.den) : Option giroref3_Of_L0X := (u0_7 (u0_7 (f d.1.1.1 d.1.2.2.2.1.1) d.2.1) d.2.2.1)
def L222_0q : LoopSum := ⟨[I222_0q], [(.exit 0, X0_222_0q)], giroref3_Of_L0X, fun k d => c222_0q (giroref3_Of_L0 k k) d, fun b x _ K => K (.exit 0) (stOf b X0_222_0q (((), (), ()), ((j0_7 x ()), (f7_7 x ()), ())))⟩
noncomputable def E222q : Env := ⟨prog, fun _ => false, sumsOf []⟩
def A222q : Notes := ⟨[], [(3, L222_0q)], [], false⟩
theorem B222q : EnvB E222q := env_n (l := []) mixed_orders trivial
theorem lk222_0q : LoopOK prog 1000 0 27 (loopAt (bodyOf f21) 0) L222_0q := lp (A := A222q) L222_0q (fun d => (j0_7 d.2.1 (g0_7 d.2.2.1))) c222_0q giroref3_Of_L0 giroref3_Of_L0b B222q loops0
def R222q : Nat × Entry := entA 21 [.c (.int .i64), .c (.dat false (.int .i64))] (.agg rc46q) (fun k d => giroref3_Of k d.1 d.2.1) (fun x => (f0_7 x ()))
theorem F222q : FnOK prog R222q := fA (rs := .agg rc46q) f21 A222q (fun d => (g0_7 d)) B222q (loops1 lk222_0q)
def R223q : Nat × Entry := entX 25 [.chn [xc59q, xc61q, xc62q]] (.agg rc42q) [rc53q, rc56q, rc49q] 0 (fun k d => gate_Gate_State k (g1_18 d) (g20_4 d) (g24_10 d)) (fun x => (f0_11 x.1 ((), (f0_18 x.2.1 ((), (f0_4 x.2.2.1 (f0_10 x.2.2.2 ())))))))
theorem F223q : FnOK prog R223q := fX (rs := .agg rc42q) (os := [rc53q, rc56q, rc49q]) (ns := 0) f25 ⟨[], [], [], true⟩ 0 (fun d => ((g0_11 d), (g12_18 d), (g31_4 d), (g35_10 d))) (env_n (l := []) mixed_orders trivial) loops0
def R224q : Nat × Entry := entA 25 [.c (.nilp)] (.agg rc50q) (fun k d => gate_Gate_State_v2 k) (fun x => (f0_11 x ()))
theorem F224q : FnOK prog R224q := fA (rs := .agg rc50q) f25 ⟨[], [], [], true⟩ (fun d => (g0_11 d)) (env_n (l := []) mixed_orders trivial) loops0
def R225q : Nat × Entry := entA 177 [.c (.nilp), .c (.int .i64)] (.c (.own (.int .u8))) (fun k d => tape_Deck_Read_v2 k d.2.1) (fun x => (x, ()))
theorem F225q : FnOK prog R225q := fA (rs := .c (.own (.int .u8))) f177 ⟨[], [], [], true⟩ (fun d => d.1) (env_n (l := []) mixed_orders trivial) loops0
def R226q : Nat × Entry := entA 119 [.c (.nilp), .c (.int .i64)] (.tup [(false, rc41q), (false, rc38q), (false, rc39q)]) (fun k d => log_held_v2 k d.2.1) (fun x => (x.1, x.2.1, x.2.2, ()))
theorem F226q : FnOK prog R226q := fA (rs := .tup [(false, rc41q), (false, rc38q), (false, rc39q)]) f119 ⟨[], [], [], true⟩ (fun d => (d.1, d.2.1, d.2.2.1)) (env_n (l := [R225q, R10q, R11q]) mixed_orders ⟨F225q, F10q, F11q, trivial⟩) loops0
def R227q : Nat × Entry := entA 64 [.c (.nilp)] (.tup [(false, rc41q), (false, rc41q), (false, rc38q), (false, rc39q), (false, [.bool])]) (fun k d => log_Look_v2 k) (fun x => (f0_5 x ()))
theorem F227q : FnOK prog R227q := fA (rs := .tup [(false, rc41q), (false, rc41q), (false, rc38q), (false, rc39q), (false, [.bool])]) f64 ⟨[], [], [(2, 3)], true⟩ (fun d => (d.1, d.2.1, d.2.2.1, d.2.2.2.1, d.2.2.2.2.1)) (env_n (l := [R226q]) mixed_orders ⟨F226q, trivial⟩) (loopsOK_or (n := 1) (by kernel_rfl) fun i hi => match i, hi with | 0, _ => .inr ⟨by kernel_rfl, loops0⟩ | i + 1, hi => absurd hi (by omega))
def R228q : Nat × Entry := entX 65 [.c (.p (.nilp)), .c (.p (.dat false (.int .u8)))] (.tup [(false, [.nilp]), (false, [.own (.int .u8)]), (false, [.own (.sl (.int .u8))]), (false, rc41q)]) [] 0 (fun k d => log_Open_v2 k d.2.1) (fun x => ((), x.1, x.2.1, x.2.2, ()))
theorem F228q : FnOK prog R228q := fX (rs := .tup [(false, [.nilp]), (false, [.own (.int .u8)]), (false, [.own (.sl (.int .u8))]), (false, rc41q)]) (os := []) (ns := 0) f65 ⟨[], [], [], true⟩ 0 (fun d => (d.2.1, d.2.2.1, d.2.2.2.1)) (env_n (l := []) mixed_orders trivial) loops0
def R229q : Nat × Entry := entA 71 [.c (.nilp), .c (.dat false (.int .u8))] (.c (.int .i64)) (fun k d => log_Log_Save_v2 k d.2.1) (fun x => (x, ()))
theorem F229q : FnOK prog R229q := fA (rs := .c (.int .i64)) f71 ⟨[], [], [], true⟩ (fun d => d.1) (env_n (l := []) mixed_orders trivial) loops0
def I230_0q : Spec := ⟨[(2, .c (.int .i64)), (3, .c (.lit (.ptr 1001000 0))), (12, .c (.bool)), (13, .c (.lit .nilp)), (17, .c (.lit (.ptr 1001001 0))), (72, .c (.lit (.osl 1001002 none))), (73, .c (.int .i64)), (74, .c (.int .i64))], [.box true cs7q, .box true cs6q, .arr true (.sl (.int .u8))], [(17, some 1, .bool, true), (17, some 2, .bool, true), (17, some 3, .bool, true), (17, some 4, .bool, true), (17, some 5, .bool, true), (17, some 6, .bool, true), (17, some 7, .bool, true), (17, some 8, .bool, true)]⟩
def X0_230_0q : Spec := ⟨[(2, .c (.int .i64)), (3, .c (.lit (.ptr 1001000 0))), (12, .c (.bool)), (13, .c (.lit .nilp)), (17, .c (.lit (.ptr 1001001 0)))], [.box true cs7q, .box true cs6q], []⟩
def c230_0q (f : gate_Open_v2_L0T) (d : I230_0q.den) : Option gate_Open_v2_L0X := f d.1.1.1 d.1.2.2.1.1 d.1.2.2.2.2.2.2.1.1 d.1.2.2.2.2.2.2.2.1.1 (g0_5 d.2.1) (g0_11 d.2.2.1) d.2.2.2.1
def L230_0q : LoopSum := ⟨[I230_0q], [(.exit 0, X0_230_0q)], gate_Open_v2_L0X, fun k d => c230_0q (gate_Open_v2_L0 k k) d, fun b x _ K => K (.exit 0) (stOf b X0_230_0q (((x.1, ()), (), (x.2.1, ()), (), (), ()), ((f0_5 x.2.2.1 ()), (f0_11 x.2.2.2 ()), ())))⟩
noncomputable def E230q : Env := ⟨prog, fun _ => false, sumsOf [R6q, R227q, R17q, R22q, R228q, R37q, R40q, R186q, R229q, R203q]⟩
def A230q : Notes := ⟨[], [(11, L230_0q)], [], true⟩
theorem B230q : EnvB E230q := env_n (l := [R6q, R227q, R17q, R22q, R228q, R37q, R40q, R186q, R229q, R203q]) mixed_orders ⟨F6q, F227q, F17q, F22q, F228q, F37q, F40q, F186q, F229q, F203q, trivial⟩
theorem lk230_0q : LoopOK prog 1000 0 112 (loopAt (bodyOf f17) 0) L230_0q := lp (A := A230q) L230_0q (fun d => (d.1.1.1, d.1.2.2.1.1, (g0_5 d.2.1), (g0_11 d.2.2.1))) c230_0q gate_Open_v2_L0 gate_Open_v2_L0b B230q loops0
def R230q : Nat × Entry := entX 17 [.agg pc34q, .c (.p (.nilp)), .c (.p (.int .i64))] (.tup [(false, [.nilp]), (false, rc41q)]) [] 0 (fun k d => gate_Open_v2 k (g0_5 d) d.2.2.2.2.2.2.1) (fun x => ((), x, ()))
theorem F230q : FnOK prog R230q := fX (rs := .tup [(false, [.nilp]), (false, rc41q)]) (os := []) (ns := 0) f17 A230q 0 (fun d => d.2.1) B230q (loops1 lk230_0q)
def I233_0q : Spec := ⟨[(0, .c (.dat false (.int .i64))), (1, .c (.dat false (.int .i64))), (5, .c (.int .i64))], [], []⟩
def X0_233_0q : Spec := ⟨[], [], []⟩
def X1_233_0q : Spec := ⟨[(4, .c (.bool))], [], []⟩
def c233_0q (f : giroref2_Same_L0T) (d : I233_0q.den) : Option (Unit ⊕ Bool) := f d.1.1.1 d.1.2.1.1 d.1.2.2.1.1
def L233_0q : LoopSum := ⟨[I233_0q], [(.exit 0, X0_233_0q), (.ret, X1_233_0q)], (Unit ⊕ Bool), fun k d => c233_0q (giroref2_Same_L0 k k) d, fun b x _ K => match x with | .inl x => K (.exit 0) (stOf b X0_233_0q ((), ())) | .inr x => K .ret (stOf b X1_233_0q (((x, ()), ()), ()))⟩
noncomputable def E233q : Env := ⟨prog, fun _ => false, sumsOf []⟩
def A233q : Notes := ⟨[], [(4, L233_0q)], [], false⟩
theorem B233q : EnvB E233q := env_n (l := []) mixed_orders trivial
theorem lk233_0q : LoopOK prog 1000 0 26 (loopAt (bodyOf f88) 0) L233_0q := lp (A := A233q) L233_0q (fun d => match d with | .inl d => .inl () | .inr d => .inr d.1.1.1) c233_0q giroref2_Same_L0 giroref2_Same_L0b B233q loops0
def R233q : Nat × Entry := entA 88 [.c (.dat false (.int .i64)), .c (.dat false (.int .i64))] (.c (.bool)) (fun k d => giroref2_Same k d.1 d.2.1) (fun x => (x, ()))
theorem F233q : FnOK prog R233q := fA (rs := .c (.bool)) f88 A233q (fun d => d.1) B233q (loops1 lk233_0q)
def I234_0q : Spec := ⟨[(0, .c (.dat false (.sl (.int .i64)))), (1, .c (.dat false (.sl (.int .i64)))), (5, .c (.int .i64))], [], []⟩
def X0_234_0q : Spec := ⟨[], [], []⟩
def X1_234_0q : Spec := ⟨[(4, .c (.bool))], [], []⟩
def c234_0q (f : giroref10_Rows_L0T) (d : I234_0q.den) : Option (Unit ⊕ Bool) := f d.1.1.1 d.1.2.1.1 d.1.2.2.1.1
def L234_0q : LoopSum := ⟨[I234_0q], [(.exit 0, X0_234_0q), (.ret, X1_234_0q)], (Unit ⊕ Bool), fun k d => c234_0q (giroref10_Rows_L0 k k) d, fun b x _ K => match x with | .inl x => K (.exit 0) (stOf b X0_234_0q ((), ())) | .inr x => K .ret (stOf b X1_234_0q (((x, ()), ()), ()))⟩
noncomputable def E234q : Env := ⟨prog, fun _ => false, sumsOf [R233q]⟩
def A234q : Notes := ⟨[], [(4, L234_0q)], [], false⟩
theorem B234q : EnvB E234q := env_n (l := [R233q]) mixed_orders ⟨F233q, trivial⟩
theorem lk234_0q : LoopOK prog 1000 0 27 (loopAt (bodyOf f89) 0) L234_0q := lp (A := A234q) L234_0q (fun d => match d with | .inl d => .inl () | .inr d => .inr d.1.1.1) c234_0q giroref10_Rows_L0 giroref10_Rows_L0b B234q loops0
def R234q : Nat × Entry := entA 89 [.c (.dat false (.sl (.int .i64))), .c (.dat false (.sl (.int .i64)))] (.c (.bool)) (fun k d => giroref10_Rows k d.1 d.2.1) (fun x => (x, ()))
theorem F234q : FnOK prog R234q := fA (rs := .c (.bool)) f89 A234q (fun d => d.1) B234q (loops1 lk234_0q)
def I235_0q : Spec := ⟨[(2, .c (.lit (.ptr 1001000 0))), (3, .c (.lit (.ptr 1001001 0))), (5, .c (.int .i64))], [.box true cs1q, .box true cs1q], []⟩
def X0_235_0q : Spec := ⟨[], [], []⟩
def X1_235_0q : Spec := ⟨[(4, .c (.bool))], [], []⟩
def c235_0q (f : giroref10_Same_L0T) (d : I235_0q.den) : Option (Unit ⊕ Bool) := (u0_4 (u0_4 (f d.1.2.2.1.1) d.2.1) d.2.2.1)
def L235_0q : LoopSum := ⟨[I235_0q], [(.exit 0, X0_235_0q), (.ret, X1_235_0q)], (Unit ⊕ Bool), fun k d => c235_0q (giroref10_Same_L0 k k) d, fun b x _ K => match x with | .inl x => K (.exit 0) (stOf b X0_235_0q ((), ())) | .inr x => K .ret (stOf b X1_235_0q (((x, ()), ()), ()))⟩
noncomputable def E235q : Env := ⟨prog, fun t => [104].any (Nat.beq t), sumsOf [R234q, R233q]⟩
def A235q : Notes := ⟨[], [(4, L235_0q)], [], false⟩
theorem B235q : EnvB E235q := env_b (l := [R234q, R233q]) (eqT := fun t => [104].any (Nat.beq t)) (eqOK_flat (fun t h => eqT_mem (p := fun t => prog.keyTypeAt 8 t && !prog.eqGuardType prog.depth t) (l := [104]) (List.forall_mem_cons.2 ⟨by kernel_rfl, List.forall_mem_nil _⟩) t h)) mixed_orders ⟨F234q, F233q, trivial⟩
theorem lk235_0q : LoopOK prog 1000 0 55 (loopAt (bodyOf f87) 0) L235_0q := lp (A := A235q) L235_0q (fun d => match d with | .inl d => .inl () | .inr d => .inr d.1.1.1) c235_0q giroref10_Same_L0 giroref10_Same_L0b B235q loops0
def R235q : Nat × Entry := entA 87 [.agg pc27q, .agg pc27q] (.c (.bool)) (fun k d => (u0_8 (giroref10_Same k) d)) (fun x => (x, ()))
theorem F235q : FnOK prog R235q := fA (rs := .c (.bool)) f87 A235q (fun d => d.1) B235q (loops1 lk235_0q)
def I236_0q : Spec := ⟨[(0, .c (.dat false y25q)), (1, .c (.dat false y25q)), (5, .c (.int .i64))], [], []⟩
def X0_236_0q : Spec := ⟨[], [], []⟩
def X1_236_0q : Spec := ⟨[(4, .c (.bool))], [], []⟩
def c236_0q (f : giroref11_Same_L0T) (d : I236_0q.den) : Option (Unit ⊕ Bool) := f d.1.1.1 d.1.2.1.1 d.1.2.2.1.1
def L236_0q : LoopSum := ⟨[I236_0q], [(.exit 0, X0_236_0q), (.ret, X1_236_0q)], (Unit ⊕ Bool), fun k d => c236_0q (giroref11_Same_L0 k k) d, fun b x _ K => match x with | .inl x => K (.exit 0) (stOf b X0_236_0q ((), ())) | .inr x => K .ret (stOf b X1_236_0q (((x, ()), ()), ()))⟩
noncomputable def E236q : Env := ⟨prog, fun t => [177].any (Nat.beq t), sumsOf []⟩
def A236q : Notes := ⟨[], [(4, L236_0q)], [], false⟩
theorem B236q : EnvB E236q := env_b (l := []) (eqT := fun t => [177].any (Nat.beq t)) (eqOK_flat (fun t h => eqT_mem (p := fun t => prog.keyTypeAt 8 t && !prog.eqGuardType prog.depth t) (l := [177]) (List.forall_mem_cons.2 ⟨by kernel_rfl, List.forall_mem_nil _⟩) t h)) mixed_orders trivial
theorem lk236_0q : LoopOK prog 1000 0 26 (loopAt (bodyOf f90) 0) L236_0q := lp (A := A236q) L236_0q (fun d => match d with | .inl d => .inl () | .inr d => .inr d.1.1.1) c236_0q giroref11_Same_L0 giroref11_Same_L0b B236q loops0
def R236q : Nat × Entry := entA 90 [.c (.dat false y25q), .c (.dat false y25q)] (.c (.bool)) (fun k d => giroref11_Same k d.1 d.2.1) (fun x => (x, ()))
theorem F236q : FnOK prog R236q := fA (rs := .c (.bool)) f90 A236q (fun d => d.1) B236q (loops1 lk236_0q)
def R237q : Nat × Entry := entA 24 [.agg pc30q, .agg pc30q] (.c (.bool)) (fun k d => giroref24_Same k (g0_11 d) (g11_11 d)) (fun x => (x, ()))
theorem F237q : FnOK prog R237q := fA (rs := .c (.bool)) f24 ⟨[], [], [], true⟩ (fun d => d.1) (env_n (l := [R235q, R233q, R234q, R236q]) mixed_orders ⟨F235q, F233q, F234q, F236q, trivial⟩) loops0
def I247_0q : Spec := ⟨[(0, .c (.dat false (.int .u8))), (3, .c (.int .u64)), (4, .c (.int .i64))], [], []⟩
def X0_247_0q : Spec := ⟨[(3, .c (.int .u64))], [], []⟩
def c247_0q (f : List Int → Int → Int → Option Int) (d : I247_0q.den) : Option Int := f d.1.1.1 d.1.2.1.1 d.1.2.2.1.1
def L247_0q : LoopSum := ⟨[I247_0q], [(.exit 0, X0_247_0q)], Int, fun k d => c247_0q (giroref2_one_L0 k k) d, fun b x _ K => K (.exit 0) (stOf b X0_247_0q (((x, ()), ()), ()))⟩
noncomputable def E247q : Env := ⟨prog, fun _ => false, sumsOf []⟩
def A247q : Notes := ⟨[], [(3, L247_0q)], [], true⟩
theorem B247q : EnvB E247q := env_n (l := []) mixed_orders trivial
theorem lk247_0q : LoopOK prog 1000 0 19 (loopAt (bodyOf f170) 0) L247_0q := lp (A := A247q) L247_0q (fun d => d.1.1.1) c247_0q giroref2_one_L0 giroref2_one_L0b B247q loops0
def R247q : Nat × Entry := entA 170 [.c (.dat false (.int .u8))] (.c (.int .i64)) (fun k d => giroref2_one k d.1) (fun x => (x, ()))
theorem F247q : FnOK prog R247q := fA (rs := .c (.int .i64)) f170 A247q (fun d => d.1) B247q (loops1 lk247_0q)
def I248_0q : Spec := ⟨[(0, .c (.dat false (.int .u8))), (4, .c (.lit (.osl 1001000 none))), (5, .c (.int .i64))], [.arr true (.int .i64)], [(4, none, (.int .i64), false)]⟩
def X0_248_0q : Spec := ⟨[(4, .c (.lit (.osl 1001000 none)))], [.arr true (.int .i64)], []⟩
def c248_0q (f : giroref2_Get_L0T) (d : I248_0q.den) : Option (List Int) := f d.1.1.1 d.1.2.2.1.1 d.2.1
def L248_0q : LoopSum := ⟨[I248_0q], [(.exit 0, X0_248_0q)], (List Int), fun k d => c248_0q (giroref2_Get_L0 k k) d, fun b x _ K => K (.exit 0) (stOf b X0_248_0q (((), ()), (x, ())))⟩
noncomputable def E248q : Env := ⟨prog, fun _ => false, sumsOf [R247q]⟩
def A248q : Notes := ⟨[], [(5, L248_0q)], [], true⟩
theorem B248q : EnvB E248q := env_n (l := [R247q]) mixed_orders ⟨F247q, trivial⟩
theorem lk248_0q : LoopOK prog 1000 0 26 (loopAt (bodyOf f108) 0) L248_0q := lp (A := A248q) L248_0q (fun d => d.2.1) c248_0q giroref2_Get_L0 giroref2_Get_L0b B248q loops0
def R248q : Nat × Entry := entA 108 [.c (.dat false (.int .u8))] (.tup [(false, rc57q), (false, rc41q)]) (fun k d => giroref2_Get k d.1) (fun x => (x.1, x.2, ()))
theorem F248q : FnOK prog R248q := fA (rs := .tup [(false, rc57q), (false, rc41q)]) f108 A248q (fun d => (d.1, d.2.1)) B248q (loops1 lk248_0q)
def I264_0q : Spec := ⟨[(2, .c (.lit (.ptr 1001000 0))), (4, .c (.lit (.ptr 1001001 0))), (5, .c (.lit (.osl 1001002 none))), (7, .c (.int .i64))], [.box true cs10q, .box true cs10q, .arr true (.int .i64)], []⟩
def X0_264_0q : Spec := ⟨[(2, .c (.lit (.ptr 1001000 0))), (4, .c (.lit (.ptr 1001001 0)))], [.box true cs10q, .box true cs10q], []⟩
def c264_0q (f : giroref3_Read_L0T) (d : I264_0q.den) : Option giroref3_Read_L0X := f d.1.2.2.2.1.1 (g0_7 d.2.1) (g0_7 d.2.2.1) d.2.2.2.1
def L264_0q : LoopSum := ⟨[I264_0q], [(.exit 0, X0_264_0q)], giroref3_Read_L0X, fun k d => c264_0q (giroref3_Read_L0 k k) d, fun b x _ K => K (.exit 0) (stOf b X0_264_0q (((), (), ()), ((f0_7 x.1 ()), (f0_7 x.2 ()), ())))⟩
noncomputable def E264q : Env := ⟨prog, fun _ => false, sumsOf [R248q, R208q]⟩
def A264q : Notes := ⟨[], [(8, L264_0q)], [], true⟩
theorem B264q : EnvB E264q := env_n (l := [R248q, R208q]) mixed_orders ⟨F248q, F208q, trivial⟩
theorem lk264_0q : LoopOK prog 1000 0 48 (loopAt (bodyOf f51) 0) L264_0q := lp (A := A264q) L264_0q (fun d => ((g0_7 d.2.1), (g0_7 d.2.2.1))) c264_0q giroref3_Read_L0 giroref3_Read_L0b B264q loops0
def R264q : Nat × Entry := entA 51 [.c (.dat false (.int .u8))] (.tup [(true, rc46q), (false, rc41q)]) (fun k d => giroref3_Read k d.1) (fun x => (f0_7 x.1 (x.2, ())))
theorem F264q : FnOK prog R264q := fA (rs := .tup [(true, rc46q), (false, rc41q)]) f51 A264q (fun d => ((g0_7 d), d.2.2.2.2.2.2.2.1)) B264q (loops1 lk264_0q)
def I354_0q : Spec := ⟨[(0, .c (.dat false y26q)), (1, .c (.dat false y26q)), (5, .c (.int .i64))], [], []⟩
def X0_354_0q : Spec := ⟨[], [], []⟩
def X1_354_0q : Spec := ⟨[(4, .c (.bool))], [], []⟩
def c354_0q (f : giroref3_Outs_L0T) (d : I354_0q.den) : Option (Unit ⊕ Bool) := f d.1.1.1 d.1.2.1.1 d.1.2.2.1.1
def L354_0q : LoopSum := ⟨[I354_0q], [(.exit 0, X0_354_0q), (.ret, X1_354_0q)], (Unit ⊕ Bool), fun k d => c354_0q (giroref3_Outs_L0 k k) d, fun b x _ K => match x with | .inl x => K (.exit 0) (stOf b X0_354_0q ((), ())) | .inr x => K .ret (stOf b X1_354_0q (((x, ()), ()), ()))⟩
noncomputable def E354q : Env := ⟨prog, fun t => [53].any (Nat.beq t), sumsOf []⟩
def A354q : Notes := ⟨[], [(4, L354_0q)], [], false⟩
theorem B354q : EnvB E354q := env_b (l := []) (eqT := fun t => [53].any (Nat.beq t)) (eqOK_flat (fun t h => eqT_mem (p := fun t => prog.keyTypeAt 8 t && !prog.eqGuardType prog.depth t) (l := [53]) (List.forall_mem_cons.2 ⟨by kernel_rfl, List.forall_mem_nil _⟩) t h)) mixed_orders trivial
theorem lk354_0q : LoopOK prog 1000 0 26 (loopAt (bodyOf f23) 0) L354_0q := lp (A := A354q) L354_0q (fun d => match d with | .inl d => .inl () | .inr d => .inr d.1.1.1) c354_0q giroref3_Outs_L0 giroref3_Outs_L0b B354q loops0
def R354q : Nat × Entry := entA 23 [.c (.dat false y26q), .c (.dat false y26q)] (.c (.bool)) (fun k d => giroref3_Outs k d.1 d.2.1) (fun x => (x, ()))
theorem F354q : FnOK prog R354q := fA (rs := .c (.bool)) f23 A354q (fun d => d.1) B354q (loops1 lk354_0q)
def R373q : Nat × Entry := entX 40 [.ptr true xc62q, .agg [.int .i64, .int .i64]] (.tup []) [rc49q] 0 (fun k d => tape_Deck_Arm k (g0_10 d) (d.2.2.2.2.2.2.2.2.2.2.1, d.2.2.2.2.2.2.2.2.2.2.2.1)) (fun x => (f0_10 x ()))
theorem F373q : FnOK prog R373q := fX (rs := .tup []) (os := [rc49q]) (ns := 0) f40 ⟨[], [], [], true⟩ 1 (fun d => (g0_10 d)) (env_n (l := []) mixed_orders trivial) loops0
def R375q : Nat × Entry := entX 42 [.ptr true xc62q] (.tup []) [rc49q] 0 (fun k d => tape_Deck_Restart k (g0_10 d)) (fun x => (f0_10 x ()))
theorem F375q : FnOK prog R375q := fX (rs := .tup []) (os := [rc49q]) (ns := 0) f42 ⟨[], [], [(2, 3)], true⟩ 1 (fun d => (g0_10 d)) (env_n (l := []) mixed_orders trivial) (loopsOK_or (n := 1) (by kernel_rfl) fun i hi => match i, hi with | 0, _ => .inr ⟨by kernel_rfl, loops0⟩ | i + 1, hi => absurd hi (by omega))
def R382q : Nat × Entry := entA 45 [.c (.int .i64)] (.agg [.int .i64, .own y1q, .int .i64, .int .i64, .int .i64]) (fun k d => girolaw26_rules k d.1) (fun x => (f0_5 x ()))
theorem F382q : FnOK prog R382q := fA (rs := .agg [.int .i64, .own y1q, .int .i64, .int .i64, .int .i64]) f45 ⟨[], [], [], true⟩ (fun d => (g0_5 d)) (env_n (l := []) mixed_orders trivial) loops0
def R383q : Nat × Entry := entA 169 [.agg pc37q] (.c (.bool)) (fun k d => play_errs_fn1 k (g0_8 d)) (fun x => (x, ()))
theorem F383q : FnOK prog R383q := fA (rs := .c (.bool)) f169 ⟨[], [], [], true⟩ (fun d => d.1) (env_n (l := []) mixed_orders trivial) loops0
def I384_0q : Spec := ⟨[(0, .c (.dat false y26q)), (1, .c (.lit (.fn 169 []))), (7, .c (.int .i64)), (8, .c (.int .i64))], [], []⟩
def X0_384_0q : Spec := ⟨[], [], []⟩
def X1_384_0q : Spec := ⟨[(4, .c (.int .i64))], [], []⟩
def c384_0q (f : slices_IndexFunc_Out__play_errs_fn1_L0T) (d : I384_0q.den) : Option (Unit ⊕ Int) := f d.1.1.1 d.1.2.2.1.1 d.1.2.2.2.1.1
def L384_0q : LoopSum := ⟨[I384_0q], [(.exit 0, X0_384_0q), (.ret, X1_384_0q)], (Unit ⊕ Int), fun k d => c384_0q (slices_IndexFunc_Out__play_errs_fn1_L0 k k) d, fun b x _ K => match x with | .inl x => K (.exit 0) (stOf b X0_384_0q ((), ())) | .inr x => K .ret (stOf b X1_384_0q (((x, ()), ()), ()))⟩
noncomputable def E384q : Env := ⟨prog, fun _ => false, sumsOf [R383q]⟩
def A384q : Notes := ⟨[], [(2, L384_0q)], [], true⟩
theorem B384q : EnvB E384q := env_n (l := [R383q]) mixed_orders ⟨F383q, trivial⟩
theorem lk384_0q : LoopOK prog 1000 0 19 (loopAt (bodyOf f246) 0) L384_0q := lp (A := A384q) L384_0q (fun d => match d with | .inl d => .inl () | .inr d => .inr d.1.1.1) c384_0q slices_IndexFunc_Out__play_errs_fn1_L0 slices_IndexFunc_Out__play_errs_fn1_L0b B384q loops0
def R384q : Nat × Entry := entA 246 [.c (.dat false y26q), .c (.fn 169)] (.c (.int .i64)) (fun k d => slices_IndexFunc_Out__play_errs_fn1 k d.1) (fun x => (x, ()))
theorem F384q : FnOK prog R384q := fA (rs := .c (.int .i64)) f246 A384q (fun d => d.1) B384q (loops1 lk384_0q)
def R385q : Nat × Entry := entA 168 [.c (.dat false y26q), .c (.fn 169)] (.c (.bool)) (fun k d => slices_ContainsFunc_Out__play_errs_fn1 k d.1) (fun x => (x, ()))
theorem F385q : FnOK prog R385q := fA (rs := .c (.bool)) f168 ⟨[], [], [], true⟩ (fun d => d.1) (env_n (l := [R384q]) mixed_orders ⟨F384q, trivial⟩) loops0
def R386q : Nat × Entry := entA 106 [.c (.dat false y26q)] (.c (.bool)) (fun k d => play_errs k d.1) (fun x => (x, ()))
theorem F386q : FnOK prog R386q := fA (rs := .c (.bool)) f106 ⟨[], [], [], true⟩ (fun d => d.1) (env_n (l := [R385q]) mixed_orders ⟨F385q, trivial⟩) loops0
def I0_play_Run_L0 : Spec := ⟨[(2, .c (.int .i64)), (4, .c (.lit (.ptr 1001000 0))), (8, .c (.lit (.ptr 1001001 0))), (9, .c (.lit (.ptr 1001002 0))), (10, .c (.lit (.ptr 1001005 0))), (12, .c (.lit (.ptr 1001007 0))), (30, .c (.dat false (.pair (.int .i64) (.pair (.int .i64) (.pair (.sl (.int .u8)) y1q))))), (31, .c (.int .i64)), (32, .c (.int .i64))], [.box true cs7q, .box true cs24q, .box true cs15q, .arr true (.int .u8), .arr true (.int .u8), .box true [.lit (.ptr 1001006 0), .int .i64, .dat true y1q, .int .i64, .int .i64, .int .i64, .int .i64, .dat true y14q, .dat true (.sl (.int .i64)), .dat true (.int .i64), .dat true (.sl (.int .i64)), .dat true (.int .i64), .dat true (.sl (.int .i64)), .dat true y25q, .dat true (.int .i64), .int .i64, .bool, .int .i64, .bool], .box true [.lit (.ptr 1001002 0), .int .i64, .int .i64, .int .i64, .bool], .box true [.lit (.osl 1001008 none), .lit (.osl 1001009 none), .int .i64, .lit .nsl, .lit .nsl, .lit .nsl, .lit .nsl, .lit .nsl, .lit .nsl, .lit .nsl, .lit .nsl, .int .i64, .bool, .bool], .arr true (.sl y26q), .arr true y26q], [(12, some 0, (.sl y26q), false), (12, some 1, y26q, false)]⟩
def I1_play_Run_L0 : Spec := ⟨[(2, .c (.int .i64)), (4, .c (.lit (.ptr 1001000 0))), (8, .c (.lit (.ptr 1001001 0))), (9, .c (.lit (.ptr 1001002 0))), (10, .c (.lit .nilp)), (12, .c (.lit (.ptr 1001005 0))), (30, .c (.dat false (.pair (.int .i64) (.pair (.int .i64) (.pair (.sl (.int .u8)) y1q))))), (31, .c (.int .i64)), (32, .c (.int .i64))], [.box true cs7q, .box true cs24q, .box true cs15q, .arr true (.int .u8), .arr true (.int .u8), .box true [.lit (.osl 1001006 none), .lit (.osl 1001007 none), .int .i64, .lit .nsl, .lit .nsl, .lit .nsl, .lit .nsl, .lit .nsl, .lit .nsl, .lit .nsl, .lit .nsl, .int .i64, .bool, .bool], .arr true (.sl y26q), .arr true y26q], [(12, some 0, (.sl y26q), false), (12, some 1, y26q, false)]⟩
def X0_387_0q : Spec := ⟨[(8, .c (.lit (.ptr 1001000 0))), (10, .c (.lit .nilp)), (12, .c (.lit (.ptr 1001001 0)))], [.box true cs24q, .box true [.lit (.osl 1001002 none), .lit (.osl 1001003 none), .int .i64, .lit .nsl, .lit .nsl, .lit .nsl, .lit .nsl, .lit .nsl, .lit .nsl, .lit .nsl, .lit .nsl, .int .i64, .bool, .bool], .arr true (.sl y26q), .arr true y26q], []⟩
def X1_387_0q : Spec := ⟨[(8, .c (.lit (.ptr 1001000 0))), (10, .c (.lit (.ptr 1001001 0))), (12, .c (.lit (.ptr 1001006 0)))], [.box true cs24q, .box true [.lit (.ptr 1001002 0), .int .i64, .dat true y1q, .int .i64, .int .i64, .int .i64, .int .i64, .dat true y14q, .dat true (.sl (.int .i64)), .dat true (.int .i64), .dat true (.sl (.int .i64)), .dat true (.int .i64), .dat true (.sl (.int .i64)), .dat true y25q, .dat true (.int .i64), .int .i64, .bool, .int .i64, .bool], .box true [.lit (.ptr 1001003 0), .int .i64, .int .i64, .int .i64, .bool], .box true [.int .i64, .lit (.osl 1001004 none), .int .i64, .lit (.osl 1001005 none), .int .i64, .int .i64, .int .i64, .bool, .bool, .int .i64], .arr true (.int .u8), .arr true (.int .u8), .box true [.lit (.osl 1001007 none), .lit (.osl 1001008 none), .int .i64, .lit .nsl, .lit .nsl, .lit .nsl, .lit .nsl, .lit .nsl, .lit .nsl, .lit .nsl, .lit .nsl, .int .i64, .bool, .bool], .arr true (.sl y26q), .arr true y26q], []⟩
def c387_0q (f : play_Run_L0T) (d : InD [I0_play_Run_L0, I1_play_Run_L0]) : Option play_Run_L0X := match d with | .inl d => f (.inl (d.1.1.1, d.1.2.2.2.2.2.2.1.1, d.1.2.2.2.2.2.2.2.1.1, d.1.2.2.2.2.2.2.2.2.1.1, (g0_5 d.2.1), (g0_4 d.2.2.1), (g0_8 d.2.2.2.1), d.2.2.2.2.1, d.2.2.2.2.2.1, (g0_18 d.2.2.2.2.2.2.1), (g0_4 d.2.2.2.2.2.2.2.1), (g0_4 d.2.2.2.2.2.2.2.2.1), d.2.2.2.2.2.2.2.2.2.1, d.2.2.2.2.2.2.2.2.2.2.1)) | .inr d => f (.inr (d.1.1.1, d.1.2.2.2.2.2.2.1.1, d.1.2.2.2.2.2.2.2.1.1, d.1.2.2.2.2.2.2.2.2.1.1, (g0_5 d.2.1), (g0_4 d.2.2.1), (g0_8 d.2.2.2.1), d.2.2.2.2.1, d.2.2.2.2.2.1, (g0_4 d.2.2.2.2.2.2.1), d.2.2.2.2.2.2.2.1, d.2.2.2.2.2.2.2.2.1))
def L387_0q : LoopSum := ⟨[I0_play_Run_L0, I1_play_Run_L0], [(.exit 0, X0_387_0q), (.exit 0, X1_387_0q)], play_Run_L0X, fun k d => c387_0q (play_Run_L0 k k) d, fun b x _ K => match x with | .inl x => K (.exit 0) (stOf b X0_387_0q (((), (), (), ()), ((f0_4 x.1 ()), (f0_4 x.2.1 ()), x.2.2.1, x.2.2.2, ()))) | .inr x => K (.exit 0) (stOf b X1_387_0q (((), (), (), ()), ((f0_4 x.1 ()), (f0_18 x.2.1 ()), (f0_4 x.2.2.1 ()), (f0_8 x.2.2.2.1 ()), x.2.2.2.2.1, x.2.2.2.2.2.1, (f0_4 x.2.2.2.2.2.2.1 ()), x.2.2.2.2.2.2.2.1, x.2.2.2.2.2.2.2.2, ())))⟩
noncomputable def E387q : Env := ⟨prog, fun _ => false, sumsOf [R1q, R204q, R219q, R39q, R386q, R212q, R373q, R375q, R221q, R220q, R224q, R223q, R230q]⟩
def A387q : Notes := ⟨[], [(7, L387_0q)], [], true⟩
theorem B387q : EnvB E387q := env_n (l := [R1q, R204q, R219q, R39q, R386q, R212q, R373q, R375q, R221q, R220q, R224q, R223q, R230q]) mixed_orders ⟨F1q, F204q, F219q, F39q, F386q, F212q, F373q, F375q, F221q, F220q, F224q, F223q, F230q, trivial⟩
theorem lk387_0q : LoopOK prog 1000 0 110 (loopAt (bodyOf f46) 0) L387_0q := lp (A := A387q) L387_0q (fun d => match d with | .inl d => .inl ((g0_4 d.2.1), (g0_4 d.2.2.1), d.2.2.2.1, d.2.2.2.2.1) | .inr d => .inr ((g0_4 d.2.1), (g0_18 d.2.2.1), (g0_4 d.2.2.2.1), (g0_8 d.2.2.2.2.1), d.2.2.2.2.2.1, d.2.2.2.2.2.2.1, (g0_4 d.2.2.2.2.2.2.2.1), d.2.2.2.2.2.2.2.2.1, d.2.2.2.2.2.2.2.2.2.1)) c387_0q play_Run_L0 play_Run_L0b B387q loops0 (hs := by intro k rec d; rcases d with d | d <;> kernel_rfl) (h0 := by intro k d; rcases d with d | d <;> rfl)
def R387q : Nat × Entry := entA 46 [.agg pc34q, .c (.int .i64), .c (.int .i64), .c (.dat false (.pair (.int .i64) (.pair (.int .i64) (.pair (.sl (.int .u8)) y1q))))] (.agg rc58q) (fun k d => play_Run k (g0_5 d) d.2.2.2.2.2.1 d.2.2.2.2.2.2.1 d.2.2.2.2.2.2.2.1) (fun x => (f0_14 x ()))
theorem F387q : FnOK prog R387q := fA (rs := .agg rc58q) f46 A387q (fun d => (g0_14 d)) B387q (loops1 lk387_0q)
def R391q : Nat × Entry := entA 49 [] (.c (.bool)) (fun k d => girolaw26_known k) (fun x => (x, ()))
theorem F391q : FnOK prog R391q := fA (rs := .c (.bool)) f49 ⟨[], [], [], true⟩ (fun d => d.1) (env_n (l := [R382q, R387q, R207q, R237q]) mixed_orders ⟨F382q, F387q, F207q, F237q, trivial⟩) loops0
noncomputable def E_girolaw26_PlayForm : Env := ⟨prog, fun _ => false, sumsOf [R264q, R382q, R387q, R222q, R354q, R207q, R237q, R391q]⟩
def A_girolaw26_PlayForm : Notes := ⟨[], [], [], true⟩
theorem B_girolaw26_PlayForm : EnvB E_girolaw26_PlayForm := env_n (l := [R264q, R382q, R387q, R222q, R354q, R207q, R237q, R391q]) mixed_orders ⟨F264q, F382q, F387q, F222q, F354q, F207q, F237q, F391q, trivial⟩
def as_girolaw26_PlayForm : List AS := [.c (.int .i64), .c (.int .i64), .c (.dat true (.int .u8))]
theorem girolaw26_PlayForm_ev : EvOK E_girolaw26_PlayForm A_girolaw26_PlayForm 0 f11 as_girolaw26_PlayForm (.c (.bool)) (fun d => d.1) (fun k d => girolaw26_PlayForm k d.1 d.2.1 d.2.2.1) := by intro k d; kernel_rfl
end Go.Ab.Gi
