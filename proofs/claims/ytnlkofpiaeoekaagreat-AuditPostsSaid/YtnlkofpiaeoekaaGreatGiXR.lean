/- The shallow functions are what the program does, printed (abprint.py). -/
import Derived.Test.YtnlkofpiaeoekaaGreatGiXS
import Derived.Test.YtnlkofpiaeoekaaGreatProg
set_option linter.unusedVariables false
set_option maxRecDepth 100000
namespace Go.Ab.Gi

theorem mixed_orders : Proofs.Tryz.prog.follows .mixedOrders = true := by kernel_rfl

/-! ### giro/girolaw27.some -/
noncomputable def E0q : Env := ⟨Proofs.Tryz.prog, fun _ => false, sumsOf []⟩
def I0_0q : Spec := ⟨[(0, .c (.dat false (.int .i64))), (1, .c (.int .i64)), (4, .c (.lit (.ptr 1001000 0))), (5, .c (.lit (.ptr 1001001 0))), (6, .c (.int .i64))], [.box true [.lit .nsl, .lit .nsl, .lit .nsl, .lit .nsl], .box true [.lit (.osl 1001002 none), .lit (.osl 1001003 none), .lit (.osl 1001004 none), .lit (.osl 1001005 none)], .arr true y6q, .mat, .arr true (.int .i64), .mat], [(5, some 0, y6q, false)]⟩
def X0_0_0q : Spec := ⟨[(1, .c (.int .i64)), (4, .c (.lit (.ptr 1001000 0))), (5, .c (.lit (.ptr 1001001 0)))], [.box true [.lit .nsl, .lit .nsl, .lit .nsl, .lit .nsl], .box true [.lit (.osl 1001002 none), .lit (.osl 1001003 none), .lit (.osl 1001004 none), .lit (.osl 1001005 none)], .arr true y6q, .mat, .arr true (.int .i64), .mat], []⟩
def O0_0q : List (Ex × Spec) := [(.exit 0, X0_0_0q)]
def c0_0q (f : girolaw27_some_L0T) (d : I0_0q.den) : Option girolaw27_some_L0X := f d.1.1.1 d.1.2.1.1 d.1.2.2.2.2.1.1 d.2.2.2.1 d.2.2.2.2.1 d.2.2.2.2.2.1 d.2.2.2.2.2.2.1
def T0_0q : OutD O0_0q → girolaw27_some_L0X := fun d => (d.1.1.1, d.2.2.2.1, d.2.2.2.2.1, d.2.2.2.2.2.1, d.2.2.2.2.2.2.1)
def e0_0q : Elim girolaw27_some_L0X := fun base x _ K => K (.exit 0) (stOf base X0_0_0q (((x.1, ()), (), (), ()), ((), (), x.2.1, x.2.2.1, x.2.2.2.1, x.2.2.2.2, ())))
def L0_0q : LoopSum := ⟨I0_0q, O0_0q, girolaw27_some_L0X, fun k d => c0_0q (girolaw27_some_L0 k k) d, e0_0q⟩
def A0q : Notes := ⟨[11, 16], [(3, L0_0q)]⟩
theorem B0q : EnvB E0q := env_n mixed_orders trivial
theorem st0_0q : StepOK E0q A0q 0 91 (loopAt (bodyOf Proofs.Tryz.f11) 0) I0_0q O0_0q T0_0q c0_0q girolaw27_some_L0b := by intro k rec d; kernel_rfl
theorem lk0_0q : LoopOK E0q.P 1000 0 91 (loopAt (bodyOf Proofs.Tryz.f11) 0) L0_0q := loop_b B0q st0_0q girolaw27_some_L0 e0_0q (fun _ _ _ => rfl) loops0
def as0q : List AS := [.c (.dat false (.int .i64)), .c (.int .i64)]
def rs0q : RS := .agg [.own y6q, .mat, .own (.int .i64), .mat]
def pk0q : (List K4q) × (List (List Int)) × (List Int) × (List (List Int)) → RL rs0q.cells := fun x => (x.1, x.2.1, x.2.2.1, x.2.2.2, ())
def up0q : RL rs0q.cells → (List K4q) × (List (List Int)) × (List Int) × (List (List Int)) := fun d => (d.1, d.2.1, d.2.2.1, d.2.2.2.1)
def s0q (k : Nat) (d : AD as0q) := girolaw27_some k d.1 d.2.1
def R0q : Nat × Entry := (11, fun k nm args h => entry as0q rs0q (s0q k) pk0q nm args h)
theorem ev0q : EvOK E0q A0q 0 Proofs.Tryz.f11 as0q rs0q up0q s0q := by intro k d; kernel_rfl
theorem F0q : FnOK Proofs.Tryz.prog R0q := fn_b B0q ev0q (loops1 lk0_0q)

/-! ### giro/giroref13.Find -/
noncomputable def E1q : Env := ⟨Proofs.Tryz.prog, fun _ => false, sumsOf []⟩
def I1_0q : Spec := ⟨[(0, .c (.dat false y10q)), (1, .c (.int .i64)), (5, .c (.int .i64))], [], []⟩
def X0_1_0q : Spec := ⟨[], [], []⟩
def X1_1_0q : Spec := ⟨[(4, .c (.int .i64))], [], []⟩
def O1_0q : List (Ex × Spec) := [(.exit 0, X0_1_0q), (.ret, X1_1_0q)]
def c1_0q (f : giroref13_Find_L0T) (d : I1_0q.den) : Option (Unit ⊕ Int) := f d.1.1.1 d.1.2.1.1 d.1.2.2.1.1
def T1_0q : OutD O1_0q → (Unit ⊕ Int)
 | .inl d => .inl ()
 | .inr d => .inr d.1.1.1
def e1_0q : Elim (Unit ⊕ Int) := fun base x _ K => match x with
 | .inl x => K (.exit 0) (stOf base X0_1_0q ((), ()))
 | .inr x => K .ret (stOf base X1_1_0q (((x, ()), ()), ()))
def L1_0q : LoopSum := ⟨I1_0q, O1_0q, (Unit ⊕ Int), fun k d => c1_0q (giroref13_Find_L0 k k) d, e1_0q⟩
def A1q : Notes := ⟨[], [(2, L1_0q)]⟩
theorem B1q : EnvB E1q := env_n mixed_orders trivial
theorem st1_0q : StepOK E1q A1q 0 20 (loopAt (bodyOf Proofs.Tryz.f63) 0) I1_0q O1_0q T1_0q c1_0q giroref13_Find_L0b := by intro k rec d; kernel_rfl
theorem lk1_0q : LoopOK E1q.P 1000 0 20 (loopAt (bodyOf Proofs.Tryz.f63) 0) L1_0q := loop_b B1q st1_0q giroref13_Find_L0 e1_0q (by intro o R K; rcases o with o | o <;> rfl) loops0
def as1q : List AS := [.c (.dat false y10q), .c (.int .i64)]
def rs1q : RS := .c (.int .i64)
def pk1q : Int → RL rs1q.cells := fun x => (x, ())
def up1q : RL rs1q.cells → Int := fun d => d.1
def s1q (k : Nat) (d : AD as1q) := giroref13_Find k d.1 d.2.1
def R1q : Nat × Entry := (63, fun k nm args h => entry as1q rs1q (s1q k) pk1q nm args h)
theorem ev1q : EvOK E1q A1q 0 Proofs.Tryz.f63 as1q rs1q up1q s1q := by intro k d; kernel_rfl
theorem F1q : FnOK Proofs.Tryz.prog R1q := fn_b B1q ev1q (loops1 lk1_0q)

/-! ### giro/giroref13.ahead -/
noncomputable def E2q : Env := ⟨Proofs.Tryz.prog, fun _ => false, sumsOf []⟩
def A2q : Notes := ⟨[], []⟩
theorem B2q : EnvB E2q := env_n mixed_orders trivial
def as2q : List AS := [.agg [.int .i64, .int .i64, .int .i64, .int .i64, .int .i64, .int .i64, .int .i64], .agg [.int .i64, .int .i64, .int .i64, .int .i64, .int .i64, .int .i64, .int .i64]]
def rs2q : RS := .c (.bool)
def pk2q : Bool → RL rs2q.cells := fun x => (x, ())
def up2q : RL rs2q.cells → Bool := fun d => d.1
def s2q (k : Nat) (d : AD as2q) := giroref13_ahead k d.1 d.2.1 d.2.2.1 d.2.2.2.1 d.2.2.2.2.1 d.2.2.2.2.2.1 d.2.2.2.2.2.2.1 d.2.2.2.2.2.2.2.1 d.2.2.2.2.2.2.2.2.1 d.2.2.2.2.2.2.2.2.2.1 d.2.2.2.2.2.2.2.2.2.2.1 d.2.2.2.2.2.2.2.2.2.2.2.1 d.2.2.2.2.2.2.2.2.2.2.2.2.1 d.2.2.2.2.2.2.2.2.2.2.2.2.2.1
def R2q : Nat × Entry := (100, fun k nm args h => entry as2q rs2q (s2q k) pk2q nm args h)
theorem ev2q : EvOK E2q A2q 0 Proofs.Tryz.f100 as2q rs2q up2q s2q := by intro k d; kernel_rfl
theorem F2q : FnOK Proofs.Tryz.prog R2q := fn_0 B2q ev2q

/-! ### giro/giroref13.behind -/
noncomputable def E3q : Env := ⟨Proofs.Tryz.prog, fun _ => false, sumsOf [R2q]⟩
def I3_0q : Spec := ⟨[(0, .c (.dat false y10q)), (3, .c (.lit (.ptr 1001000 0))), (5, .c (.int .i64))], [.box true [.int .i64, .int .i64, .int .i64, .int .i64, .int .i64, .int .i64, .int .i64]], []⟩
def X0_3_0q : Spec := ⟨[(5, .c (.int .i64))], [], []⟩
def O3_0q : List (Ex × Spec) := [(.exit 0, X0_3_0q)]
def c3_0q (f : giroref13_behind_L0T) (d : I3_0q.den) : Option Int := f d.1.1.1 d.1.2.2.1.1 d.2.1.1 d.2.1.2.1 d.2.1.2.2.1 d.2.1.2.2.2.1 d.2.1.2.2.2.2.1 d.2.1.2.2.2.2.2.1 d.2.1.2.2.2.2.2.2.1
def T3_0q : OutD O3_0q → Int := fun d => d.1.1.1
def e3_0q : Elim Int := fun base x _ K => K (.exit 0) (stOf base X0_3_0q (((x, ()), ()), ()))
def L3_0q : LoopSum := ⟨I3_0q, O3_0q, Int, fun k d => c3_0q (giroref13_behind_L0 k k) d, e3_0q⟩
def A3q : Notes := ⟨[], [(2, L3_0q)]⟩
theorem B3q : EnvB E3q := env_n mixed_orders ⟨F2q, trivial⟩
theorem st3_0q : StepOK E3q A3q 0 21 (loopAt (bodyOf Proofs.Tryz.f65) 0) I3_0q O3_0q T3_0q c3_0q giroref13_behind_L0b := by intro k rec d; kernel_rfl
theorem lk3_0q : LoopOK E3q.P 1000 0 21 (loopAt (bodyOf Proofs.Tryz.f65) 0) L3_0q := loop_b B3q st3_0q giroref13_behind_L0 e3_0q (fun _ _ _ => rfl) loops0
def as3q : List AS := [.c (.dat false y10q), .agg [.int .i64, .int .i64, .int .i64, .int .i64, .int .i64, .int .i64, .int .i64]]
def rs3q : RS := .c (.int .i64)
def pk3q : Int → RL rs3q.cells := fun x => (x, ())
def up3q : RL rs3q.cells → Int := fun d => d.1
def s3q (k : Nat) (d : AD as3q) := giroref13_behind k d.1 d.2.1 d.2.2.1 d.2.2.2.1 d.2.2.2.2.1 d.2.2.2.2.2.1 d.2.2.2.2.2.2.1 d.2.2.2.2.2.2.2.1
def R3q : Nat × Entry := (65, fun k nm args h => entry as3q rs3q (s3q k) pk3q nm args h)
theorem ev3q : EvOK E3q A3q 0 Proofs.Tryz.f65 as3q rs3q up3q s3q := by intro k d; kernel_rfl
theorem F3q : FnOK Proofs.Tryz.prog R3q := fn_b B3q ev3q (loops1 lk3_0q)

/-! ### giro/giroref13.insert -/
noncomputable def E4q : Env := ⟨Proofs.Tryz.prog, fun _ => false, sumsOf []⟩
def A4q : Notes := ⟨[], []⟩
theorem B4q : EnvB E4q := env_n mixed_orders trivial
def as4q : List AS := [.c (.dat false y10q), .c (.int .i64), .agg [.int .i64, .int .i64, .int .i64, .int .i64, .int .i64, .int .i64, .int .i64]]
def rs4q : RS := .c (.own y10q)
def pk4q : List K3q → RL rs4q.cells := fun x => (x, ())
def up4q : RL rs4q.cells → List K3q := fun d => d.1
def s4q (k : Nat) (d : AD as4q) := giroref13_insert k d.1 d.2.1 d.2.2.1 d.2.2.2.1 d.2.2.2.2.1 d.2.2.2.2.2.1 d.2.2.2.2.2.2.1 d.2.2.2.2.2.2.2.1 d.2.2.2.2.2.2.2.2.1
def R4q : Nat × Entry := (64, fun k nm args h => entry as4q rs4q (s4q k) pk4q nm args h)
theorem ev4q : EvOK E4q A4q 0 Proofs.Tryz.f64 as4q rs4q up4q s4q := by intro k d; kernel_rfl
theorem F4q : FnOK Proofs.Tryz.prog R4q := fn_0 B4q ev4q

/-! ### giro/giroref13.Put -/
noncomputable def E5q : Env := ⟨Proofs.Tryz.prog, fun _ => false, sumsOf [R1q, R3q, R4q]⟩
def A5q : Notes := ⟨[], []⟩
theorem B5q : EnvB E5q := env_n mixed_orders ⟨F1q, F3q, F4q, trivial⟩
def as5q : List AS := [.c (.dat true y10q), .agg [.int .i64, .int .i64, .int .i64, .int .i64, .int .i64, .int .i64, .int .i64]]
def rs5q : RS := .tup [(false, [.fro y10q]), (false, [.int .i64])]
def pk5q : (List K3q) × Int → RL rs5q.cells := fun x => (x.1, x.2, ())
def up5q : RL rs5q.cells → (List K3q) × Int := fun d => (d.1, d.2.1)
def s5q (k : Nat) (d : AD as5q) := giroref13_Put k d.1 d.2.1 d.2.2.1 d.2.2.2.1 d.2.2.2.2.1 d.2.2.2.2.2.1 d.2.2.2.2.2.2.1 d.2.2.2.2.2.2.2.1
def R5q : Nat × Entry := (30, fun k nm args h => entry as5q rs5q (s5q k) pk5q nm args h)
theorem ev5q : EvOK E5q A5q 0 Proofs.Tryz.f30 as5q rs5q up5q s5q := by intro k d; kernel_rfl
theorem F5q : FnOK Proofs.Tryz.prog R5q := fn_0 B5q ev5q

/-! ### giro/girolaw27.rowed -/
noncomputable def E6q : Env := ⟨Proofs.Tryz.prog, fun _ => false, sumsOf [R5q]⟩
def I6_0q : Spec := ⟨[(0, .c (.dat false y10q)), (3, .c (.dat true y10q)), (4, .c (.int .i64))], [], []⟩
def X0_6_0q : Spec := ⟨[(3, .c (.dat true y10q))], [], []⟩
def O6_0q : List (Ex × Spec) := [(.exit 0, X0_6_0q)]
def c6_0q (f : girolaw27_rowed_L0T) (d : I6_0q.den) : Option girolaw27_rowed_L0X := f d.1.1.1 d.1.2.1.1 d.1.2.2.1.1
def T6_0q : OutD O6_0q → girolaw27_rowed_L0X := fun d => d.1.1.1
def e6_0q : Elim girolaw27_rowed_L0X := fun base x _ K => K (.exit 0) (stOf base X0_6_0q (((x, ()), ()), ()))
def L6_0q : LoopSum := ⟨I6_0q, O6_0q, girolaw27_rowed_L0X, fun k d => c6_0q (girolaw27_rowed_L0 k k) d, e6_0q⟩
def A6q : Notes := ⟨[], [(3, L6_0q)]⟩
theorem B6q : EnvB E6q := env_n mixed_orders ⟨F5q, trivial⟩
theorem st6_0q : StepOK E6q A6q 0 74 (loopAt (bodyOf Proofs.Tryz.f12) 0) I6_0q O6_0q T6_0q c6_0q girolaw27_rowed_L0b := by intro k rec d; kernel_rfl
theorem lk6_0q : LoopOK E6q.P 1000 0 74 (loopAt (bodyOf Proofs.Tryz.f12) 0) L6_0q := loop_b B6q st6_0q girolaw27_rowed_L0 e6_0q (fun _ _ _ => rfl) loops0
def as6q : List AS := [.c (.dat false y10q)]
def rs6q : RS := .c (.fro y10q)
def pk6q : List K3q → RL rs6q.cells := fun x => (x, ())
def up6q : RL rs6q.cells → List K3q := fun d => d.1
def s6q (k : Nat) (d : AD as6q) := girolaw27_rowed k d.1
def R6q : Nat × Entry := (12, fun k nm args h => entry as6q rs6q (s6q k) pk6q nm args h)
theorem ev6q : EvOK E6q A6q 0 Proofs.Tryz.f12 as6q rs6q up6q s6q := by intro k d; kernel_rfl
theorem F6q : FnOK Proofs.Tryz.prog R6q := fn_b B6q ev6q (loops1 lk6_0q)

/-! ### giro/pay.Ready -/
noncomputable def E7q : Env := ⟨Proofs.Tryz.prog, fun _ => false, sumsOf []⟩
def A7q : Notes := ⟨[], []⟩
theorem B7q : EnvB E7q := env_n mixed_orders trivial
def as7q : List AS := [.agg [.int .i64, .int .i64, .int .i64, .int .i64, .int .i64, .int .i64, .int .i64], .c (.int .i64)]
def rs7q : RS := .c (.bool)
def pk7q : Bool → RL rs7q.cells := fun x => (x, ())
def up7q : RL rs7q.cells → Bool := fun d => d.1
def s7q (k : Nat) (d : AD as7q) := pay_Ready k d.1 d.2.1 d.2.2.1 d.2.2.2.1 d.2.2.2.2.1 d.2.2.2.2.2.1 d.2.2.2.2.2.2.1 d.2.2.2.2.2.2.2.1
def R7q : Nat × Entry := (175, fun k nm args h => entry as7q rs7q (s7q k) pk7q nm args h)
theorem ev7q : EvOK E7q A7q 0 Proofs.Tryz.f175 as7q rs7q up7q s7q := by intro k d; kernel_rfl
theorem F7q : FnOK Proofs.Tryz.prog R7q := fn_0 B7q ev7q

/-! ### giro/view.Ready$1 -/
noncomputable def E8q : Env := ⟨Proofs.Tryz.prog, fun _ => false, sumsOf [R7q]⟩
def A8q : Notes := ⟨[], []⟩
theorem B8q : EnvB E8q := env_n mixed_orders ⟨F7q, trivial⟩
def as8q : List AS := [.agg [.int .i64, .int .i64, .int .i64, .int .i64, .int .i64, .int .i64, .int .i64], .ptr [.int .i64]]
def rs8q : RS := .c (.bool)
def pk8q : Bool → RL rs8q.cells := fun x => (x, ())
def up8q : RL rs8q.cells → Bool := fun d => d.1
def s8q (k : Nat) (d : AD as8q) := view_Ready_fn1 k d.1 d.2.1 d.2.2.1 d.2.2.2.1 d.2.2.2.2.1 d.2.2.2.2.2.1 d.2.2.2.2.2.2.1 d.2.2.2.2.2.2.2.1
def R8q : Nat × Entry := (174, fun k nm args h => entry as8q rs8q (s8q k) pk8q nm args h)
theorem ev8q : EvOK E8q A8q 0 Proofs.Tryz.f174 as8q rs8q up8q s8q := by intro k d; kernel_rfl
theorem F8q : FnOK Proofs.Tryz.prog R8q := fn_0 B8q ev8q

/-! ### giro/view.all -/
noncomputable def E9q : Env := ⟨Proofs.Tryz.prog, fun _ => false, sumsOf [R8q]⟩
def I9_0q : Spec := ⟨[(1, .c (.lit (.fn 174 [1001000]))), (5, .c (.lit (.osl 1001001 none))), (8, .c (.dat false y10q)), (9, .c (.int .i64)), (10, .c (.int .i64))], [.robox [.int .i64], .arr true y10q], [(5, none, y10q, false)]⟩
def X0_9_0q : Spec := ⟨[(5, .c (.lit (.osl 1001000 none)))], [.arr true y10q], []⟩
def O9_0q : List (Ex × Spec) := [(.exit 0, X0_9_0q)]
def c9_0q (f : view_all__view_Ready_fn1_L0T) (d : I9_0q.den) : Option view_all__view_Ready_fn1_L0X := f d.1.2.2.1.1 d.1.2.2.2.1.1 d.1.2.2.2.2.1.1 d.2.1.1 d.2.2.1
def T9_0q : OutD O9_0q → view_all__view_Ready_fn1_L0X := fun d => d.2.1
def e9_0q : Elim view_all__view_Ready_fn1_L0X := fun base x _ K => K (.exit 0) (stOf base X0_9_0q (((), ()), (x, ())))
def L9_0q : LoopSum := ⟨I9_0q, O9_0q, view_all__view_Ready_fn1_L0X, fun k d => c9_0q (view_all__view_Ready_fn1_L0 k k) d, e9_0q⟩
def A9q : Notes := ⟨[], [(3, L9_0q)]⟩
theorem B9q : EnvB E9q := env_n mixed_orders ⟨F8q, trivial⟩
theorem st9_0q : StepOK E9q A9q 0 23 (loopAt (bodyOf Proofs.Tryz.f109) 0) I9_0q O9_0q T9_0q c9_0q view_all__view_Ready_fn1_L0b := by intro k rec d; kernel_rfl
theorem lk9_0q : LoopOK E9q.P 1000 0 23 (loopAt (bodyOf Proofs.Tryz.f109) 0) L9_0q := loop_b B9q st9_0q view_all__view_Ready_fn1_L0 e9_0q (fun _ _ _ => rfl) loops0
def as9q : List AS := [.c (.dat false y10q), .fn 174 [[.int .i64]]]
def rs9q : RS := .c (.own y10q)
def pk9q : List K3q → RL rs9q.cells := fun x => (x, ())
def up9q : RL rs9q.cells → List K3q := fun d => d.1
def s9q (k : Nat) (d : AD as9q) := view_all__view_Ready_fn1 k d.1 d.2.1
def R9q : Nat × Entry := (109, fun k nm args h => entry as9q rs9q (s9q k) pk9q nm args h)
theorem ev9q : EvOK E9q A9q 0 Proofs.Tryz.f109 as9q rs9q up9q s9q := by intro k d; kernel_rfl
theorem F9q : FnOK Proofs.Tryz.prog R9q := fn_b B9q ev9q (loops1 lk9_0q)

/-! ### giro/view.Ready -/
noncomputable def E10q : Env := ⟨Proofs.Tryz.prog, fun _ => false, sumsOf [R9q]⟩
def A10q : Notes := ⟨[], []⟩
theorem B10q : EnvB E10q := env_n mixed_orders ⟨F9q, trivial⟩
def as10q : List AS := [.c (.dat false y10q), .c (.int .i64)]
def rs10q : RS := .c (.own y10q)
def pk10q : List K3q → RL rs10q.cells := fun x => (x, ())
def up10q : RL rs10q.cells → List K3q := fun d => d.1
def s10q (k : Nat) (d : AD as10q) := view_Ready k d.1 d.2.1
def R10q : Nat × Entry := (133, fun k nm args h => entry as10q rs10q (s10q k) pk10q nm args h)
theorem ev10q : EvOK E10q A10q 0 Proofs.Tryz.f133 as10q rs10q up10q s10q := by intro k d; kernel_rfl
theorem F10q : FnOK Proofs.Tryz.prog R10q := fn_0 B10q ev10q

/-! ### giro/view.May$1$1 -/
noncomputable def E11q : Env := ⟨Proofs.Tryz.prog, fun _ => false, sumsOf []⟩
def A11q : Notes := ⟨[], []⟩
theorem B11q : EnvB E11q := env_n mixed_orders trivial
def as11q : List AS := [.agg [.int .i64, .int .i64, .int .i64, .int .i64, .int .i64, .int .i64, .int .i64], .ptr [.int .i64, .int .i64, .int .i64, .int .i64, .int .i64, .int .i64, .int .i64]]
def rs11q : RS := .c (.bool)
def pk11q : Bool → RL rs11q.cells := fun x => (x, ())
def up11q : RL rs11q.cells → Bool := fun d => d.1
def s11q (k : Nat) (d : AD as11q) := view_May_fn1_fn1 k d.1 d.2.1 d.2.2.1 d.2.2.2.1 d.2.2.2.2.1 d.2.2.2.2.2.1 d.2.2.2.2.2.2.1 d.2.2.2.2.2.2.2.1 d.2.2.2.2.2.2.2.2.1 d.2.2.2.2.2.2.2.2.2.1 d.2.2.2.2.2.2.2.2.2.2.1 d.2.2.2.2.2.2.2.2.2.2.2.1 d.2.2.2.2.2.2.2.2.2.2.2.2.1 d.2.2.2.2.2.2.2.2.2.2.2.2.2.1
def R11q : Nat × Entry := (135, fun k nm args h => entry as11q rs11q (s11q k) pk11q nm args h)
theorem ev11q : EvOK E11q A11q 0 Proofs.Tryz.f135 as11q rs11q up11q s11q := by intro k d; kernel_rfl
theorem F11q : FnOK Proofs.Tryz.prog R11q := fn_0 B11q ev11q

/-! ### slices.IndexFunc[[]giro/api.Pay,giro/api.Pay] -/
noncomputable def E12q : Env := ⟨Proofs.Tryz.prog, fun _ => false, sumsOf [R11q]⟩
def I12_0q : Spec := ⟨[(0, .c (.dat false y10q)), (1, .c (.lit (.fn 135 [1001000]))), (7, .c (.int .i64)), (8, .c (.int .i64))], [.robox [.int .i64, .int .i64, .int .i64, .int .i64, .int .i64, .int .i64, .int .i64]], []⟩
def X0_12_0q : Spec := ⟨[], [], []⟩
def X1_12_0q : Spec := ⟨[(4, .c (.int .i64))], [], []⟩
def O12_0q : List (Ex × Spec) := [(.exit 0, X0_12_0q), (.ret, X1_12_0q)]
def c12_0q (f : slices_IndexFunc_Pay__view_May_fn1_fn1_L0T) (d : I12_0q.den) : Option (Unit ⊕ Int) := f d.1.1.1 d.1.2.2.1.1 d.1.2.2.2.1.1 d.2.1.1 d.2.1.2.1 d.2.1.2.2.1 d.2.1.2.2.2.1 d.2.1.2.2.2.2.1 d.2.1.2.2.2.2.2.1 d.2.1.2.2.2.2.2.2.1
def T12_0q : OutD O12_0q → (Unit ⊕ Int)
 | .inl d => .inl ()
 | .inr d => .inr d.1.1.1
def e12_0q : Elim (Unit ⊕ Int) := fun base x _ K => match x with
 | .inl x => K (.exit 0) (stOf base X0_12_0q ((), ()))
 | .inr x => K .ret (stOf base X1_12_0q (((x, ()), ()), ()))
def L12_0q : LoopSum := ⟨I12_0q, O12_0q, (Unit ⊕ Int), fun k d => c12_0q (slices_IndexFunc_Pay__view_May_fn1_fn1_L0 k k) d, e12_0q⟩
def A12q : Notes := ⟨[], [(2, L12_0q)]⟩
theorem B12q : EnvB E12q := env_n mixed_orders ⟨F11q, trivial⟩
theorem st12_0q : StepOK E12q A12q 0 19 (loopAt (bodyOf Proofs.Tryz.f95) 0) I12_0q O12_0q T12_0q c12_0q slices_IndexFunc_Pay__view_May_fn1_fn1_L0b := by intro k rec d; kernel_rfl
theorem lk12_0q : LoopOK E12q.P 1000 0 19 (loopAt (bodyOf Proofs.Tryz.f95) 0) L12_0q := loop_b B12q st12_0q slices_IndexFunc_Pay__view_May_fn1_fn1_L0 e12_0q (by intro o R K; rcases o with o | o <;> rfl) loops0
def as12q : List AS := [.c (.dat false y10q), .fn 135 [[.int .i64, .int .i64, .int .i64, .int .i64, .int .i64, .int .i64, .int .i64]]]
def rs12q : RS := .c (.int .i64)
def pk12q : Int → RL rs12q.cells := fun x => (x, ())
def up12q : RL rs12q.cells → Int := fun d => d.1
def s12q (k : Nat) (d : AD as12q) := slices_IndexFunc_Pay__view_May_fn1_fn1 k d.1 d.2.1 d.2.2.1 d.2.2.2.1 d.2.2.2.2.1 d.2.2.2.2.2.1 d.2.2.2.2.2.2.1 d.2.2.2.2.2.2.2.1
def R12q : Nat × Entry := (95, fun k nm args h => entry as12q rs12q (s12q k) pk12q nm args h)
theorem ev12q : EvOK E12q A12q 0 Proofs.Tryz.f95 as12q rs12q up12q s12q := by intro k d; kernel_rfl
theorem F12q : FnOK Proofs.Tryz.prog R12q := fn_b B12q ev12q (loops1 lk12_0q)

/-! ### slices.ContainsFunc[[]giro/api.Pay,giro/api.Pay] -/
noncomputable def E13q : Env := ⟨Proofs.Tryz.prog, fun _ => false, sumsOf [R12q]⟩
def A13q : Notes := ⟨[], []⟩
theorem B13q : EnvB E13q := env_n mixed_orders ⟨F12q, trivial⟩
def as13q : List AS := [.c (.dat false y10q), .fn 135 [[.int .i64, .int .i64, .int .i64, .int .i64, .int .i64, .int .i64, .int .i64]]]
def rs13q : RS := .c (.bool)
def pk13q : Bool → RL rs13q.cells := fun x => (x, ())
def up13q : RL rs13q.cells → Bool := fun d => d.1
def s13q (k : Nat) (d : AD as13q) := slices_ContainsFunc_Pay__view_May_fn1_fn1 k d.1 d.2.1 d.2.2.1 d.2.2.2.1 d.2.2.2.2.1 d.2.2.2.2.2.1 d.2.2.2.2.2.2.1 d.2.2.2.2.2.2.2.1
def R13q : Nat × Entry := (136, fun k nm args h => entry as13q rs13q (s13q k) pk13q nm args h)
theorem ev13q : EvOK E13q A13q 0 Proofs.Tryz.f136 as13q rs13q up13q s13q := by intro k d; kernel_rfl
theorem F13q : FnOK Proofs.Tryz.prog R13q := fn_0 B13q ev13q

/-! ### giro/view.May$1 -/
noncomputable def E14q : Env := ⟨Proofs.Tryz.prog, fun _ => false, sumsOf [R13q]⟩
def A14q : Notes := ⟨[], []⟩
theorem B14q : EnvB E14q := env_n mixed_orders ⟨F13q, trivial⟩
def as14q : List AX := [.agg [.int .i64, .int .i64, .int .i64, .int .i64, .int .i64, .int .i64, .int .i64], .ptr true [.map], .ptr false [.p (.dat false y10q)]]
def rs14q : RS := .c (.bool)
def os14q : List (List RC) := [[.map]]
def pk14q : Bool × (List K1q) → RL (rs14q.cells ++ os14q.flatten) := fun x => (x.1, x.2, ())
def up14q : RL (rs14q.cells ++ os14q.flatten) → Bool × (List K1q) := fun d => (d.1, d.2.1)
def s14q (k : Nat) (d : XD as14q) := view_May_fn1 k d.1 d.2.1 d.2.2.1 d.2.2.2.1 d.2.2.2.2.1 d.2.2.2.2.2.1 d.2.2.2.2.2.2.1 d.2.2.2.2.2.2.2.1 d.2.2.2.2.2.2.2.2.1
def R14q : Nat × Entry := (134, fun k nm args h => entryX as14q rs14q os14q (s14q k) pk14q nm args h)
theorem ev14q : EvOKX E14q A14q 3 Proofs.Tryz.f134 as14q rs14q os14q up14q s14q := by intro k d; kernel_rfl
theorem F14q : FnOK Proofs.Tryz.prog R14q := fn_x B14q ev14q loops0

/-! ### giro/view.all -/
noncomputable def E15q : Env := ⟨Proofs.Tryz.prog, fun _ => false, sumsOf [R14q]⟩
def I15_0q : Spec := ⟨[(1, .c (.lit (.fn 134 [1001000, 1001002]))), (5, .c (.lit (.osl 1001003 none))), (8, .c (.dat false y10q)), (9, .c (.int .i64)), (10, .c (.int .i64))], [.box true [.lit (.map 1001001)], .imap, .robox [.dat false y10q], .arr true y10q], [(5, none, y10q, false)]⟩
def X0_15_0q : Spec := ⟨[(1, .c (.lit (.fn 134 [1001000, 1001002]))), (5, .c (.lit (.osl 1001003 none)))], [.box true [.lit (.map 1001001)], .imap, .robox [.dat false y10q], .arr true y10q], []⟩
def O15_0q : List (Ex × Spec) := [(.exit 0, X0_15_0q)]
def c15_0q (f : view_all__view_May_fn1_L0T) (d : I15_0q.den) : Option view_all__view_May_fn1_L0X := f d.1.2.2.1.1 d.1.2.2.2.1.1 d.1.2.2.2.2.1.1 d.2.2.1 d.2.2.2.1.1 d.2.2.2.2.1
def T15_0q : OutD O15_0q → view_all__view_May_fn1_L0X := fun d => (d.2.2.1, d.2.2.2.1.1, d.2.2.2.2.1)
def e15_0q : Elim view_all__view_May_fn1_L0X := fun base x _ K => K (.exit 0) (stOf base X0_15_0q (((), (), ()), ((), x.1, (x.2.1, ()), x.2.2, ())))
def L15_0q : LoopSum := ⟨I15_0q, O15_0q, view_all__view_May_fn1_L0X, fun k d => c15_0q (view_all__view_May_fn1_L0 k k) d, e15_0q⟩
def A15q : Notes := ⟨[], [(3, L15_0q)]⟩
theorem B15q : EnvB E15q := env_n mixed_orders ⟨F14q, trivial⟩
theorem st15_0q : StepOK E15q A15q 2 23 (loopAt (bodyOf Proofs.Tryz.f109) 0) I15_0q O15_0q T15_0q c15_0q view_all__view_May_fn1_L0b := by intro k rec d; kernel_rfl
theorem lk15_0q : LoopOK E15q.P 1000 2 23 (loopAt (bodyOf Proofs.Tryz.f109) 0) L15_0q := loop_b B15q st15_0q view_all__view_May_fn1_L0 e15_0q (fun _ _ _ => rfl) loops0
def as15q : List AX := [.c (.p (.dat false y10q)), .fn 134 [(true, [.map]), (false, [.p (.dat false y10q)])]]
def rs15q : RS := .c (.own y10q)
def os15q : List (List RC) := [[.map]]
def pk15q : (List K3q) × (List K1q) → RL (rs15q.cells ++ os15q.flatten) := fun x => (x.1, x.2, ())
def up15q : RL (rs15q.cells ++ os15q.flatten) → (List K3q) × (List K1q) := fun d => (d.1, d.2.1)
def s15q (k : Nat) (d : XD as15q) := view_all__view_May_fn1 k d.1 d.2.1 d.2.2.1
def R15q : Nat × Entry := (109, fun k nm args h => entryX as15q rs15q os15q (s15q k) pk15q nm args h)
theorem ev15q : EvOKX E15q A15q 2 Proofs.Tryz.f109 as15q rs15q os15q up15q s15q := by intro k d; kernel_rfl
theorem F15q : FnOK Proofs.Tryz.prog R15q := fn_x B15q ev15q (loops1 lk15_0q)

/-! ### giro/view.May -/
noncomputable def E16q : Env := ⟨Proofs.Tryz.prog, fun _ => false, sumsOf [R10q, R15q]⟩
def A16q : Notes := ⟨[], []⟩
theorem B16q : EnvB E16q := env_n mixed_orders ⟨F10q, F15q, trivial⟩
def as16q : List AS := [.c (.dat false y10q), .c (.int .i64)]
def rs16q : RS := .c (.own y10q)
def pk16q : List K3q → RL rs16q.cells := fun x => (x, ())
def up16q : RL rs16q.cells → List K3q := fun d => d.1
def s16q (k : Nat) (d : AD as16q) := view_May k d.1 d.2.1
def R16q : Nat × Entry := (101, fun k nm args h => entry as16q rs16q (s16q k) pk16q nm args h)
theorem ev16q : EvOK E16q A16q 0 Proofs.Tryz.f101 as16q rs16q up16q s16q := by intro k d; kernel_rfl
theorem F16q : FnOK Proofs.Tryz.prog R16q := fn_0 B16q ev16q

/-! ### giro/fits.May -/
noncomputable def E17q : Env := ⟨Proofs.Tryz.prog, fun _ => false, sumsOf []⟩
def A17q : Notes := ⟨[], []⟩
theorem B17q : EnvB E17q := env_n mixed_orders trivial
def as17q : List AS := [.agg [.dat false y6q, .dat false (.sl (.int .i64)), .dat false (.int .i64), .dat false (.sl (.int .i64))], .agg [.int .i64, .int .i64, .int .i64, .int .i64, .int .i64, .int .i64, .int .i64]]
def rs17q : RS := .c (.bool)
def pk17q : Bool → RL rs17q.cells := fun x => (x, ())
def up17q : RL rs17q.cells → Bool := fun d => d.1
def s17q (k : Nat) (d : AD as17q) := fits_May k d.1 d.2.1 d.2.2.1 d.2.2.2.1 d.2.2.2.2.1 d.2.2.2.2.2.1 d.2.2.2.2.2.2.1 d.2.2.2.2.2.2.2.1 d.2.2.2.2.2.2.2.2.1 d.2.2.2.2.2.2.2.2.2.1 d.2.2.2.2.2.2.2.2.2.2.1
def R17q : Nat × Entry := (138, fun k nm args h => entry as17q rs17q (s17q k) pk17q nm args h)
theorem ev17q : EvOK E17q A17q 0 Proofs.Tryz.f138 as17q rs17q up17q s17q := by intro k d; kernel_rfl
theorem F17q : FnOK Proofs.Tryz.prog R17q := fn_0 B17q ev17q

/-! ### giro/fits.Fits$1 -/
noncomputable def E18q : Env := ⟨Proofs.Tryz.prog, fun _ => false, sumsOf [R17q]⟩
def A18q : Notes := ⟨[], []⟩
theorem B18q : EnvB E18q := env_n mixed_orders ⟨F17q, trivial⟩
def as18q : List AS := [.agg [.int .i64, .int .i64, .int .i64, .int .i64, .int .i64, .int .i64, .int .i64], .ptr [.dat false y6q, .dat false (.sl (.int .i64)), .dat false (.int .i64), .dat false (.sl (.int .i64))]]
def rs18q : RS := .c (.bool)
def pk18q : Bool → RL rs18q.cells := fun x => (x, ())
def up18q : RL rs18q.cells → Bool := fun d => d.1
def s18q (k : Nat) (d : AD as18q) := fits_Fits_fn1 k d.1 d.2.1 d.2.2.1 d.2.2.2.1 d.2.2.2.2.1 d.2.2.2.2.2.1 d.2.2.2.2.2.2.1 d.2.2.2.2.2.2.2.1 d.2.2.2.2.2.2.2.2.1 d.2.2.2.2.2.2.2.2.2.1 d.2.2.2.2.2.2.2.2.2.2.1
def R18q : Nat × Entry := (137, fun k nm args h => entry as18q rs18q (s18q k) pk18q nm args h)
theorem ev18q : EvOK E18q A18q 0 Proofs.Tryz.f137 as18q rs18q up18q s18q := by intro k d; kernel_rfl
theorem F18q : FnOK Proofs.Tryz.prog R18q := fn_0 B18q ev18q

/-! ### slices.IndexFunc[[]giro/api.Pay,giro/api.Pay] -/
noncomputable def E19q : Env := ⟨Proofs.Tryz.prog, fun _ => false, sumsOf [R18q]⟩
def I19_0q : Spec := ⟨[(0, .c (.dat false y10q)), (1, .c (.lit (.fn 137 [1001000]))), (7, .c (.int .i64)), (8, .c (.int .i64))], [.robox [.dat false y6q, .dat false (.sl (.int .i64)), .dat false (.int .i64), .dat false (.sl (.int .i64))]], []⟩
def X0_19_0q : Spec := ⟨[], [], []⟩
def X1_19_0q : Spec := ⟨[(4, .c (.int .i64))], [], []⟩
def O19_0q : List (Ex × Spec) := [(.exit 0, X0_19_0q), (.ret, X1_19_0q)]
def c19_0q (f : slices_IndexFunc_Pay__fits_Fits_fn1_L0T) (d : I19_0q.den) : Option (Unit ⊕ Int) := f d.1.1.1 d.1.2.2.1.1 d.1.2.2.2.1.1 d.2.1.1 d.2.1.2.1 d.2.1.2.2.1 d.2.1.2.2.2.1
def T19_0q : OutD O19_0q → (Unit ⊕ Int)
 | .inl d => .inl ()
 | .inr d => .inr d.1.1.1
def e19_0q : Elim (Unit ⊕ Int) := fun base x _ K => match x with
 | .inl x => K (.exit 0) (stOf base X0_19_0q ((), ()))
 | .inr x => K .ret (stOf base X1_19_0q (((x, ()), ()), ()))
def L19_0q : LoopSum := ⟨I19_0q, O19_0q, (Unit ⊕ Int), fun k d => c19_0q (slices_IndexFunc_Pay__fits_Fits_fn1_L0 k k) d, e19_0q⟩
def A19q : Notes := ⟨[], [(2, L19_0q)]⟩
theorem B19q : EnvB E19q := env_n mixed_orders ⟨F18q, trivial⟩
theorem st19_0q : StepOK E19q A19q 0 19 (loopAt (bodyOf Proofs.Tryz.f95) 0) I19_0q O19_0q T19_0q c19_0q slices_IndexFunc_Pay__fits_Fits_fn1_L0b := by intro k rec d; kernel_rfl
theorem lk19_0q : LoopOK E19q.P 1000 0 19 (loopAt (bodyOf Proofs.Tryz.f95) 0) L19_0q := loop_b B19q st19_0q slices_IndexFunc_Pay__fits_Fits_fn1_L0 e19_0q (by intro o R K; rcases o with o | o <;> rfl) loops0
def as19q : List AS := [.c (.dat false y10q), .fn 137 [[.dat false y6q, .dat false (.sl (.int .i64)), .dat false (.int .i64), .dat false (.sl (.int .i64))]]]
def rs19q : RS := .c (.int .i64)
def pk19q : Int → RL rs19q.cells := fun x => (x, ())
def up19q : RL rs19q.cells → Int := fun d => d.1
def s19q (k : Nat) (d : AD as19q) := slices_IndexFunc_Pay__fits_Fits_fn1 k d.1 d.2.1 d.2.2.1 d.2.2.2.1 d.2.2.2.2.1
def R19q : Nat × Entry := (95, fun k nm args h => entry as19q rs19q (s19q k) pk19q nm args h)
theorem ev19q : EvOK E19q A19q 0 Proofs.Tryz.f95 as19q rs19q up19q s19q := by intro k d; kernel_rfl
theorem F19q : FnOK Proofs.Tryz.prog R19q := fn_b B19q ev19q (loops1 lk19_0q)

/-! ### slices.ContainsFunc[[]giro/api.Pay,giro/api.Pay] -/
noncomputable def E20q : Env := ⟨Proofs.Tryz.prog, fun _ => false, sumsOf [R19q]⟩
def A20q : Notes := ⟨[], []⟩
theorem B20q : EnvB E20q := env_n mixed_orders ⟨F19q, trivial⟩
def as20q : List AS := [.c (.dat false y10q), .fn 137 [[.dat false y6q, .dat false (.sl (.int .i64)), .dat false (.int .i64), .dat false (.sl (.int .i64))]]]
def rs20q : RS := .c (.bool)
def pk20q : Bool → RL rs20q.cells := fun x => (x, ())
def up20q : RL rs20q.cells → Bool := fun d => d.1
def s20q (k : Nat) (d : AD as20q) := slices_ContainsFunc_Pay__fits_Fits_fn1 k d.1 d.2.1 d.2.2.1 d.2.2.2.1 d.2.2.2.2.1
def R20q : Nat × Entry := (136, fun k nm args h => entry as20q rs20q (s20q k) pk20q nm args h)
theorem ev20q : EvOK E20q A20q 0 Proofs.Tryz.f136 as20q rs20q up20q s20q := by intro k d; kernel_rfl
theorem F20q : FnOK Proofs.Tryz.prog R20q := fn_0 B20q ev20q

/-! ### giro/lim.isSize -/
noncomputable def E21q : Env := ⟨Proofs.Tryz.prog, fun _ => false, sumsOf []⟩
def A21q : Notes := ⟨[], []⟩
theorem B21q : EnvB E21q := env_n mixed_orders trivial
def as21q : List AS := [.c (.int .i64)]
def rs21q : RS := .c (.bool)
def pk21q : Bool → RL rs21q.cells := fun x => (x, ())
def up21q : RL rs21q.cells → Bool := fun d => d.1
def s21q (k : Nat) (d : AD as21q) := lim_isSize k d.1
def R21q : Nat × Entry := (77, fun k nm args h => entry as21q rs21q (s21q k) pk21q nm args h)
theorem ev21q : EvOK E21q A21q 0 Proofs.Tryz.f77 as21q rs21q up21q s21q := by intro k d; kernel_rfl
theorem F21q : FnOK Proofs.Tryz.prog R21q := fn_0 B21q ev21q

/-! ### giro/lim.Row -/
noncomputable def E22q : Env := ⟨Proofs.Tryz.prog, fun _ => false, sumsOf [R21q]⟩
def I22_0q : Spec := ⟨[(1, .c (.int .i64)), (5, .c (.lit (.osl 1001000 none))), (13, .c (.int .i64)), (14, .c (.int .i64))], [.arr true (.int .i64)], []⟩
def X0_22_0q : Spec := ⟨[(5, .c (.lit (.osl 1001000 none)))], [.arr true (.int .i64)], []⟩
def O22_0q : List (Ex × Spec) := [(.exit 0, X0_22_0q)]
def c22_0q (f : lim_Row_L0T) (d : I22_0q.den) : Option (List Int) := f d.1.1.1 d.1.2.2.1.1 d.1.2.2.2.1.1 d.2.1
def T22_0q : OutD O22_0q → (List Int) := fun d => d.2.1
def e22_0q : Elim (List Int) := fun base x _ K => K (.exit 0) (stOf base X0_22_0q (((), ()), (x, ())))
def L22_0q : LoopSum := ⟨I22_0q, O22_0q, (List Int), fun k d => c22_0q (lim_Row_L0 k k) d, e22_0q⟩
def A22q : Notes := ⟨[], [(5, L22_0q)]⟩
theorem B22q : EnvB E22q := env_n mixed_orders ⟨F21q, trivial⟩
theorem st22_0q : StepOK E22q A22q 0 23 (loopAt (bodyOf Proofs.Tryz.f47) 0) I22_0q O22_0q T22_0q c22_0q lim_Row_L0b := by intro k rec d; kernel_rfl
theorem lk22_0q : LoopOK E22q.P 1000 0 23 (loopAt (bodyOf Proofs.Tryz.f47) 0) L22_0q := loop_b B22q st22_0q lim_Row_L0 e22_0q (fun _ _ _ => rfl) loops0
def as22q : List AS := [.c (.int .i64), .c (.int .i64)]
def rs22q : RS := .c (.own (.int .i64))
def pk22q : List Int → RL rs22q.cells := fun x => (x, ())
def up22q : RL rs22q.cells → List Int := fun d => d.1
def s22q (k : Nat) (d : AD as22q) := lim_Row k d.1 d.2.1
def R22q : Nat × Entry := (47, fun k nm args h => entry as22q rs22q (s22q k) pk22q nm args h)
theorem ev22q : EvOK E22q A22q 0 Proofs.Tryz.f47 as22q rs22q up22q s22q := by intro k d; kernel_rfl
theorem F22q : FnOK Proofs.Tryz.prog R22q := fn_b B22q ev22q (loops1 lk22_0q)

/-! ### giro/lim.Square -/
noncomputable def E23q : Env := ⟨Proofs.Tryz.prog, fun _ => false, sumsOf [R21q, R22q]⟩
def I23_0q : Spec := ⟨[(0, .c (.int .i64)), (1, .c (.int .i64)), (5, .c (.lit (.osl 1001000 none))), (13, .c (.int .i64)), (14, .c (.int .i64))], [.mat], []⟩
def X0_23_0q : Spec := ⟨[(5, .c (.lit (.osl 1001000 none)))], [.mat], []⟩
def O23_0q : List (Ex × Spec) := [(.exit 0, X0_23_0q)]
def c23_0q (f : lim_Square_L0T) (d : I23_0q.den) : Option (List (List Int)) := f d.1.1.1 d.1.2.1.1 d.1.2.2.2.1.1 d.1.2.2.2.2.1.1 d.2.1
def T23_0q : OutD O23_0q → (List (List Int)) := fun d => d.2.1
def e23_0q : Elim (List (List Int)) := fun base x _ K => K (.exit 0) (stOf base X0_23_0q (((), ()), (x, ())))
def L23_0q : LoopSum := ⟨I23_0q, O23_0q, (List (List Int)), fun k d => c23_0q (lim_Square_L0 k k) d, e23_0q⟩
def A23q : Notes := ⟨[11], [(5, L23_0q)]⟩
theorem B23q : EnvB E23q := env_n mixed_orders ⟨F21q, F22q, trivial⟩
theorem st23_0q : StepOK E23q A23q 0 25 (loopAt (bodyOf Proofs.Tryz.f46) 0) I23_0q O23_0q T23_0q c23_0q lim_Square_L0b := by intro k rec d; kernel_rfl
theorem lk23_0q : LoopOK E23q.P 1000 0 25 (loopAt (bodyOf Proofs.Tryz.f46) 0) L23_0q := loop_b B23q st23_0q lim_Square_L0 e23_0q (fun _ _ _ => rfl) loops0
def as23q : List AS := [.c (.int .i64), .c (.int .i64)]
def rs23q : RS := .c (.mat)
def pk23q : List (List Int) → RL rs23q.cells := fun x => (x, ())
def up23q : RL rs23q.cells → List (List Int) := fun d => d.1
def s23q (k : Nat) (d : AD as23q) := lim_Square k d.1 d.2.1
def R23q : Nat × Entry := (46, fun k nm args h => entry as23q rs23q (s23q k) pk23q nm args h)
theorem ev23q : EvOK E23q A23q 0 Proofs.Tryz.f46 as23q rs23q up23q s23q := by intro k d; kernel_rfl
theorem F23q : FnOK Proofs.Tryz.prog R23q := fn_b B23q ev23q (loops1 lk23_0q)

/-! ### giro/fits.moved -/
noncomputable def E24q : Env := ⟨Proofs.Tryz.prog, fun _ => false, sumsOf [R22q, R23q]⟩
def I24_0q : Spec := ⟨[(4, .c (.lit (.ptr 1001000 0))), (5, .c (.lit (.ptr 1001001 0))), (15, .c (.dat false y10q)), (16, .c (.int .i64)), (17, .c (.int .i64))], [.box true [.lit .nsl, .lit .nsl, .lit .nsl], .box true [.lit (.osl 1001002 none), .lit (.osl 1001003 none), .lit (.osl 1001004 none)], .arr true (.int .i64), .arr true (.int .i64), .mat], []⟩
def X0_24_0q : Spec := ⟨[(4, .c (.lit (.ptr 1001000 0))), (5, .c (.lit (.ptr 1001001 0)))], [.box true [.lit .nsl, .lit .nsl, .lit .nsl], .box true [.lit (.osl 1001002 none), .lit (.osl 1001003 none), .lit (.osl 1001004 none)], .arr true (.int .i64), .arr true (.int .i64), .mat], []⟩
def O24_0q : List (Ex × Spec) := [(.exit 0, X0_24_0q)]
def c24_0q (f : fits_moved_L0T) (d : I24_0q.den) : Option fits_moved_L0X := f d.1.2.2.1.1 d.1.2.2.2.1.1 d.1.2.2.2.2.1.1 d.2.2.2.1 d.2.2.2.2.1 d.2.2.2.2.2.1
def T24_0q : OutD O24_0q → fits_moved_L0X := fun d => (d.2.2.2.1, d.2.2.2.2.1, d.2.2.2.2.2.1)
def e24_0q : Elim fits_moved_L0X := fun base x _ K => K (.exit 0) (stOf base X0_24_0q (((), (), ()), ((), (), x.1, x.2.1, x.2.2, ())))
def L24_0q : LoopSum := ⟨I24_0q, O24_0q, fits_moved_L0X, fun k d => c24_0q (fits_moved_L0 k k) d, e24_0q⟩
def A24q : Notes := ⟨[], [(3, L24_0q)]⟩
theorem B24q : EnvB E24q := env_n mixed_orders ⟨F22q, F23q, trivial⟩
theorem st24_0q : StepOK E24q A24q 0 84 (loopAt (bodyOf Proofs.Tryz.f176) 0) I24_0q O24_0q T24_0q c24_0q fits_moved_L0b := by intro k rec d; kernel_rfl
theorem lk24_0q : LoopOK E24q.P 1000 0 84 (loopAt (bodyOf Proofs.Tryz.f176) 0) L24_0q := loop_b B24q st24_0q fits_moved_L0 e24_0q (fun _ _ _ => rfl) loops0
def as24q : List AS := [.c (.int .i64), .c (.dat false y10q)]
def rs24q : RS := .agg [.own (.int .i64), .own (.int .i64), .mat]
def pk24q : (List Int) × (List Int) × (List (List Int)) → RL rs24q.cells := fun x => (x.1, x.2.1, x.2.2, ())
def up24q : RL rs24q.cells → (List Int) × (List Int) × (List (List Int)) := fun d => (d.1, d.2.1, d.2.2.1)
def s24q (k : Nat) (d : AD as24q) := fits_moved k d.1 d.2.1
def R24q : Nat × Entry := (176, fun k nm args h => entry as24q rs24q (s24q k) pk24q nm args h)
theorem ev24q : EvOK E24q A24q 0 Proofs.Tryz.f176 as24q rs24q up24q s24q := by intro k d; kernel_rfl
theorem F24q : FnOK Proofs.Tryz.prog R24q := fn_b B24q ev24q (loops1 lk24_0q)

/-! ### giro/fits.Short$1 -/
noncomputable def E25q : Env := ⟨Proofs.Tryz.prog, fun _ => false, sumsOf []⟩
def A25q : Notes := ⟨[], []⟩
theorem B25q : EnvB E25q := env_n mixed_orders trivial
def as25q : List AS := [.agg [.int .i64, .int .i64, .int .i64, .int .i64, .int .i64, .int .i64, .int .i64], .ptr [.int .i64]]
def rs25q : RS := .c (.bool)
def pk25q : Bool → RL rs25q.cells := fun x => (x, ())
def up25q : RL rs25q.cells → Bool := fun d => d.1
def s25q (k : Nat) (d : AD as25q) := fits_Short_fn1 k d.1 d.2.1 d.2.2.1 d.2.2.2.1 d.2.2.2.2.1 d.2.2.2.2.2.1 d.2.2.2.2.2.2.1 d.2.2.2.2.2.2.2.1
def R25q : Nat × Entry := (177, fun k nm args h => entry as25q rs25q (s25q k) pk25q nm args h)
theorem ev25q : EvOK E25q A25q 0 Proofs.Tryz.f177 as25q rs25q up25q s25q := by intro k d; kernel_rfl
theorem F25q : FnOK Proofs.Tryz.prog R25q := fn_0 B25q ev25q

/-! ### slices.IndexFunc[[]giro/api.Pay,giro/api.Pay] -/
noncomputable def E26q : Env := ⟨Proofs.Tryz.prog, fun _ => false, sumsOf [R25q]⟩
def I26_0q : Spec := ⟨[(0, .c (.dat false y10q)), (1, .c (.lit (.fn 177 [1001000]))), (7, .c (.int .i64)), (8, .c (.int .i64))], [.robox [.int .i64]], []⟩
def X0_26_0q : Spec := ⟨[], [], []⟩
def X1_26_0q : Spec := ⟨[(4, .c (.int .i64))], [], []⟩
def O26_0q : List (Ex × Spec) := [(.exit 0, X0_26_0q), (.ret, X1_26_0q)]
def c26_0q (f : slices_IndexFunc_Pay__fits_Short_fn1_L0T) (d : I26_0q.den) : Option (Unit ⊕ Int) := f d.1.1.1 d.1.2.2.1.1 d.1.2.2.2.1.1 d.2.1.1
def T26_0q : OutD O26_0q → (Unit ⊕ Int)
 | .inl d => .inl ()
 | .inr d => .inr d.1.1.1
def e26_0q : Elim (Unit ⊕ Int) := fun base x _ K => match x with
 | .inl x => K (.exit 0) (stOf base X0_26_0q ((), ()))
 | .inr x => K .ret (stOf base X1_26_0q (((x, ()), ()), ()))
def L26_0q : LoopSum := ⟨I26_0q, O26_0q, (Unit ⊕ Int), fun k d => c26_0q (slices_IndexFunc_Pay__fits_Short_fn1_L0 k k) d, e26_0q⟩
def A26q : Notes := ⟨[], [(2, L26_0q)]⟩
theorem B26q : EnvB E26q := env_n mixed_orders ⟨F25q, trivial⟩
theorem st26_0q : StepOK E26q A26q 0 19 (loopAt (bodyOf Proofs.Tryz.f95) 0) I26_0q O26_0q T26_0q c26_0q slices_IndexFunc_Pay__fits_Short_fn1_L0b := by intro k rec d; kernel_rfl
theorem lk26_0q : LoopOK E26q.P 1000 0 19 (loopAt (bodyOf Proofs.Tryz.f95) 0) L26_0q := loop_b B26q st26_0q slices_IndexFunc_Pay__fits_Short_fn1_L0 e26_0q (by intro o R K; rcases o with o | o <;> rfl) loops0
def as26q : List AS := [.c (.dat false y10q), .fn 177 [[.int .i64]]]
def rs26q : RS := .c (.int .i64)
def pk26q : Int → RL rs26q.cells := fun x => (x, ())
def up26q : RL rs26q.cells → Int := fun d => d.1
def s26q (k : Nat) (d : AD as26q) := slices_IndexFunc_Pay__fits_Short_fn1 k d.1 d.2.1
def R26q : Nat × Entry := (95, fun k nm args h => entry as26q rs26q (s26q k) pk26q nm args h)
theorem ev26q : EvOK E26q A26q 0 Proofs.Tryz.f95 as26q rs26q up26q s26q := by intro k d; kernel_rfl
theorem F26q : FnOK Proofs.Tryz.prog R26q := fn_b B26q ev26q (loops1 lk26_0q)

/-! ### slices.ContainsFunc[[]giro/api.Pay,giro/api.Pay] -/
noncomputable def E27q : Env := ⟨Proofs.Tryz.prog, fun _ => false, sumsOf [R26q]⟩
def A27q : Notes := ⟨[], []⟩
theorem B27q : EnvB E27q := env_n mixed_orders ⟨F26q, trivial⟩
def as27q : List AS := [.c (.dat false y10q), .fn 177 [[.int .i64]]]
def rs27q : RS := .c (.bool)
def pk27q : Bool → RL rs27q.cells := fun x => (x, ())
def up27q : RL rs27q.cells → Bool := fun d => d.1
def s27q (k : Nat) (d : AD as27q) := slices_ContainsFunc_Pay__fits_Short_fn1 k d.1 d.2.1
def R27q : Nat × Entry := (136, fun k nm args h => entry as27q rs27q (s27q k) pk27q nm args h)
theorem ev27q : EvOK E27q A27q 0 Proofs.Tryz.f136 as27q rs27q up27q s27q := by intro k d; kernel_rfl
theorem F27q : FnOK Proofs.Tryz.prog R27q := fn_0 B27q ev27q

/-! ### giro/lim.Net -/
noncomputable def E28q : Env := ⟨Proofs.Tryz.prog, fun _ => false, sumsOf []⟩
def I28_0q : Spec := ⟨[(5, .c (.int .i64)), (12, .c (.dat false (.int .i64))), (13, .c (.int .i64)), (14, .c (.int .i64))], [], []⟩
def X0_28_0q : Spec := ⟨[(5, .c (.int .i64))], [], []⟩
def O28_0q : List (Ex × Spec) := [(.exit 0, X0_28_0q)]
def c28_0q (f : Int → List Int → Int → Int → Option Int) (d : I28_0q.den) : Option Int := f d.1.1.1 d.1.2.1.1 d.1.2.2.1.1 d.1.2.2.2.1.1
def T28_0q : OutD O28_0q → Int := fun d => d.1.1.1
def e28_0q : Elim Int := fun base x _ K => K (.exit 0) (stOf base X0_28_0q (((x, ()), ()), ()))
def L28_0q : LoopSum := ⟨I28_0q, O28_0q, Int, fun k d => c28_0q (lim_Net_L0 k k) d, e28_0q⟩
def A28q : Notes := ⟨[], [(3, L28_0q)]⟩
theorem B28q : EnvB E28q := env_n mixed_orders trivial
theorem st28_0q : StepOK E28q A28q 0 23 (loopAt (bodyOf Proofs.Tryz.f199) 0) I28_0q O28_0q T28_0q c28_0q lim_Net_L0b := by intro k rec d; kernel_rfl
theorem lk28_0q : LoopOK E28q.P 1000 0 23 (loopAt (bodyOf Proofs.Tryz.f199) 0) L28_0q := loop_b B28q st28_0q lim_Net_L0 e28_0q (fun _ _ _ => rfl) loops0
def as28q : List AS := [.agg [.dat false y6q, .dat false (.sl (.int .i64)), .dat false (.int .i64), .dat false (.sl (.int .i64))], .c (.int .i64)]
def rs28q : RS := .c (.int .i64)
def pk28q : Int → RL rs28q.cells := fun x => (x, ())
def up28q : RL rs28q.cells → Int := fun d => d.1
def s28q (k : Nat) (d : AD as28q) := lim_Net k d.1 d.2.1 d.2.2.1 d.2.2.2.1 d.2.2.2.2.1
def R28q : Nat × Entry := (199, fun k nm args h => entry as28q rs28q (s28q k) pk28q nm args h)
theorem ev28q : EvOK E28q A28q 0 Proofs.Tryz.f199 as28q rs28q up28q s28q := by intro k d; kernel_rfl
theorem F28q : FnOK Proofs.Tryz.prog R28q := fn_b B28q ev28q (loops1 lk28_0q)

/-! ### giro/fits.over -/
noncomputable def E29q : Env := ⟨Proofs.Tryz.prog, fun _ => false, sumsOf []⟩
def A29q : Notes := ⟨[], []⟩
theorem B29q : EnvB E29q := env_n mixed_orders trivial
def as29q : List AS := [.c (.int .i64), .c (.int .i64)]
def rs29q : RS := .c (.bool)
def pk29q : Bool → RL rs29q.cells := fun x => (x, ())
def up29q : RL rs29q.cells → Bool := fun d => d.1
def s29q (k : Nat) (d : AD as29q) := fits_over k d.1 d.2.1
def R29q : Nat × Entry := (200, fun k nm args h => entry as29q rs29q (s29q k) pk29q nm args h)
theorem ev29q : EvOK E29q A29q 0 Proofs.Tryz.f200 as29q rs29q up29q s29q := by intro k d; kernel_rfl
theorem F29q : FnOK Proofs.Tryz.prog R29q := fn_0 B29q ev29q

/-! ### giro/acct.Kept -/
noncomputable def E30q : Env := ⟨Proofs.Tryz.prog, fun _ => false, sumsOf []⟩
def A30q : Notes := ⟨[], []⟩
theorem B30q : EnvB E30q := env_n mixed_orders trivial
def as30q : List AS := [.agg [.int .i64, .int .i64, .int .i64], .c (.int .i64)]
def rs30q : RS := .c (.int .i64)
def pk30q : Int → RL rs30q.cells := fun x => (x, ())
def up30q : RL rs30q.cells → Int := fun d => d.1
def s30q (k : Nat) (d : AD as30q) := acct_Kept k d.1 d.2.1 d.2.2.1 d.2.2.2.1
def R30q : Nat × Entry := (141, fun k nm args h => entry as30q rs30q (s30q k) pk30q nm args h)
theorem ev30q : EvOK E30q A30q 0 Proofs.Tryz.f141 as30q rs30q up30q s30q := by intro k d; kernel_rfl
theorem F30q : FnOK Proofs.Tryz.prog R30q := fn_0 B30q ev30q

/-! ### (giro/fits.move).isShort$1 -/
noncomputable def E31q : Env := ⟨Proofs.Tryz.prog, fun _ => false, sumsOf [R30q, R29q]⟩
def A31q : Notes := ⟨[], []⟩
theorem B31q : EnvB E31q := env_n mixed_orders ⟨F30q, F29q, trivial⟩
def as31q : List AS := [.agg [.int .i64, .int .i64, .int .i64, .int .i64, .int .i64, .int .i64, .int .i64], .ptr [.int .i64], .ptr [.int .i64, .int .i64, .int .i64], .ptr [.dat false (.int .i64), .dat false (.int .i64), .dat false (.sl (.int .i64))], .ptr [.int .i64], .ptr [.dat false y6q, .dat false (.sl (.int .i64)), .dat false (.int .i64), .dat false (.sl (.int .i64))]]
def rs31q : RS := .c (.bool)
def pk31q : Bool → RL rs31q.cells := fun x => (x, ())
def up31q : RL rs31q.cells → Bool := fun d => d.1
def s31q (k : Nat) (d : AD as31q) := fits_move_isShort_fn1 k d.1 d.2.1 d.2.2.1 d.2.2.2.1 d.2.2.2.2.1 d.2.2.2.2.2.1 d.2.2.2.2.2.2.1 d.2.2.2.2.2.2.2.1 d.2.2.2.2.2.2.2.2.1 d.2.2.2.2.2.2.2.2.2.1 d.2.2.2.2.2.2.2.2.2.2.1 d.2.2.2.2.2.2.2.2.2.2.2.1 d.2.2.2.2.2.2.2.2.2.2.2.2.1 d.2.2.2.2.2.2.2.2.2.2.2.2.2.1 d.2.2.2.2.2.2.2.2.2.2.2.2.2.2.1 d.2.2.2.2.2.2.2.2.2.2.2.2.2.2.2.1 d.2.2.2.2.2.2.2.2.2.2.2.2.2.2.2.2.1 d.2.2.2.2.2.2.2.2.2.2.2.2.2.2.2.2.2.1 d.2.2.2.2.2.2.2.2.2.2.2.2.2.2.2.2.2.2.1
def R31q : Nat × Entry := (201, fun k nm args h => entry as31q rs31q (s31q k) pk31q nm args h)
theorem ev31q : EvOK E31q A31q 0 Proofs.Tryz.f201 as31q rs31q up31q s31q := by intro k d; kernel_rfl
theorem F31q : FnOK Proofs.Tryz.prog R31q := fn_0 B31q ev31q

/-! ### slices.IndexFunc[[]giro/api.Pay,giro/api.Pay] -/
noncomputable def E32q : Env := ⟨Proofs.Tryz.prog, fun _ => false, sumsOf [R31q]⟩
def I32_0q : Spec := ⟨[(0, .c (.dat false y10q)), (1, .c (.lit (.fn 201 [1001000, 1001001, 1001002, 1001003, 1001004]))), (7, .c (.int .i64)), (8, .c (.int .i64))], [.robox [.int .i64], .robox [.int .i64, .int .i64, .int .i64], .robox [.dat false (.int .i64), .dat false (.int .i64), .dat false (.sl (.int .i64))], .robox [.int .i64], .robox [.dat false y6q, .dat false (.sl (.int .i64)), .dat false (.int .i64), .dat false (.sl (.int .i64))]], []⟩
def X0_32_0q : Spec := ⟨[], [], []⟩
def X1_32_0q : Spec := ⟨[(4, .c (.int .i64))], [], []⟩
def O32_0q : List (Ex × Spec) := [(.exit 0, X0_32_0q), (.ret, X1_32_0q)]
def c32_0q (f : slices_IndexFunc_Pay__fits_move_isShort_fn1_L0T) (d : I32_0q.den) : Option (Unit ⊕ Int) := f d.1.1.1 d.1.2.2.1.1 d.1.2.2.2.1.1 d.2.1.1 d.2.2.1.1 d.2.2.1.2.1 d.2.2.1.2.2.1 d.2.2.2.1.1 d.2.2.2.1.2.1 d.2.2.2.1.2.2.1 d.2.2.2.2.1.1 d.2.2.2.2.2.1.1 d.2.2.2.2.2.1.2.1 d.2.2.2.2.2.1.2.2.1 d.2.2.2.2.2.1.2.2.2.1
def T32_0q : OutD O32_0q → (Unit ⊕ Int)
 | .inl d => .inl ()
 | .inr d => .inr d.1.1.1
def e32_0q : Elim (Unit ⊕ Int) := fun base x _ K => match x with
 | .inl x => K (.exit 0) (stOf base X0_32_0q ((), ()))
 | .inr x => K .ret (stOf base X1_32_0q (((x, ()), ()), ()))
def L32_0q : LoopSum := ⟨I32_0q, O32_0q, (Unit ⊕ Int), fun k d => c32_0q (slices_IndexFunc_Pay__fits_move_isShort_fn1_L0 k k) d, e32_0q⟩
def A32q : Notes := ⟨[], [(2, L32_0q)]⟩
theorem B32q : EnvB E32q := env_n mixed_orders ⟨F31q, trivial⟩
theorem st32_0q : StepOK E32q A32q 0 19 (loopAt (bodyOf Proofs.Tryz.f95) 0) I32_0q O32_0q T32_0q c32_0q slices_IndexFunc_Pay__fits_move_isShort_fn1_L0b := by intro k rec d; kernel_rfl
theorem lk32_0q : LoopOK E32q.P 1000 0 19 (loopAt (bodyOf Proofs.Tryz.f95) 0) L32_0q := loop_b B32q st32_0q slices_IndexFunc_Pay__fits_move_isShort_fn1_L0 e32_0q (by intro o R K; rcases o with o | o <;> rfl) loops0
def as32q : List AS := [.c (.dat false y10q), .fn 201 [[.int .i64], [.int .i64, .int .i64, .int .i64], [.dat false (.int .i64), .dat false (.int .i64), .dat false (.sl (.int .i64))], [.int .i64], [.dat false y6q, .dat false (.sl (.int .i64)), .dat false (.int .i64), .dat false (.sl (.int .i64))]]]
def rs32q : RS := .c (.int .i64)
def pk32q : Int → RL rs32q.cells := fun x => (x, ())
def up32q : RL rs32q.cells → Int := fun d => d.1
def s32q (k : Nat) (d : AD as32q) := slices_IndexFunc_Pay__fits_move_isShort_fn1 k d.1 d.2.1 d.2.2.1 d.2.2.2.1 d.2.2.2.2.1 d.2.2.2.2.2.1 d.2.2.2.2.2.2.1 d.2.2.2.2.2.2.2.1 d.2.2.2.2.2.2.2.2.1 d.2.2.2.2.2.2.2.2.2.1 d.2.2.2.2.2.2.2.2.2.2.1 d.2.2.2.2.2.2.2.2.2.2.2.1 d.2.2.2.2.2.2.2.2.2.2.2.2.1
def R32q : Nat × Entry := (95, fun k nm args h => entry as32q rs32q (s32q k) pk32q nm args h)
theorem ev32q : EvOK E32q A32q 0 Proofs.Tryz.f95 as32q rs32q up32q s32q := by intro k d; kernel_rfl
theorem F32q : FnOK Proofs.Tryz.prog R32q := fn_b B32q ev32q (loops1 lk32_0q)

/-! ### slices.ContainsFunc[[]giro/api.Pay,giro/api.Pay] -/
noncomputable def E33q : Env := ⟨Proofs.Tryz.prog, fun _ => false, sumsOf [R32q]⟩
def A33q : Notes := ⟨[], []⟩
theorem B33q : EnvB E33q := env_n mixed_orders ⟨F32q, trivial⟩
def as33q : List AS := [.c (.dat false y10q), .fn 201 [[.int .i64], [.int .i64, .int .i64, .int .i64], [.dat false (.int .i64), .dat false (.int .i64), .dat false (.sl (.int .i64))], [.int .i64], [.dat false y6q, .dat false (.sl (.int .i64)), .dat false (.int .i64), .dat false (.sl (.int .i64))]]]
def rs33q : RS := .c (.bool)
def pk33q : Bool → RL rs33q.cells := fun x => (x, ())
def up33q : RL rs33q.cells → Bool := fun d => d.1
def s33q (k : Nat) (d : AD as33q) := slices_ContainsFunc_Pay__fits_move_isShort_fn1 k d.1 d.2.1 d.2.2.1 d.2.2.2.1 d.2.2.2.2.1 d.2.2.2.2.2.1 d.2.2.2.2.2.2.1 d.2.2.2.2.2.2.2.1 d.2.2.2.2.2.2.2.2.1 d.2.2.2.2.2.2.2.2.2.1 d.2.2.2.2.2.2.2.2.2.2.1 d.2.2.2.2.2.2.2.2.2.2.2.1 d.2.2.2.2.2.2.2.2.2.2.2.2.1
def R33q : Nat × Entry := (136, fun k nm args h => entry as33q rs33q (s33q k) pk33q nm args h)
theorem ev33q : EvOK E33q A33q 0 Proofs.Tryz.f136 as33q rs33q up33q s33q := by intro k d; kernel_rfl
theorem F33q : FnOK Proofs.Tryz.prog R33q := fn_0 B33q ev33q

/-! ### (giro/fits.move).isShort -/
noncomputable def E34q : Env := ⟨Proofs.Tryz.prog, fun _ => false, sumsOf [R28q, R29q, R33q]⟩
def I34_0q : Spec := ⟨[(3, .c (.dat false y10q)), (4, .c (.lit (.ptr 1001000 0))), (5, .c (.lit (.ptr 1001001 0))), (6, .c (.lit (.ptr 1001002 0))), (9, .c (.lit (.ptr 1001003 0))), (10, .c (.lit (.ptr 1001004 0))), (11, .c (.int .i64)), (39, .c (.dat false (.int .i64))), (40, .c (.int .i64)), (41, .c (.int .i64))], [.box true [.dat false (.int .i64), .dat false (.int .i64), .dat false (.sl (.int .i64))], .box true [.dat false y6q, .dat false (.sl (.int .i64)), .dat false (.int .i64), .dat false (.sl (.int .i64))], .box true [.int .i64], .box true [.int .i64, .int .i64, .int .i64], .box true [.int .i64]], []⟩
def X0_34_0q : Spec := ⟨[(3, .c (.dat false y10q)), (4, .c (.lit (.ptr 1001000 0))), (5, .c (.lit (.ptr 1001001 0))), (6, .c (.lit (.ptr 1001002 0))), (9, .c (.lit (.ptr 1001003 0))), (10, .c (.lit (.ptr 1001004 0))), (11, .c (.int .i64))], [.box true [.dat false (.int .i64), .dat false (.int .i64), .dat false (.sl (.int .i64))], .box true [.dat false y6q, .dat false (.sl (.int .i64)), .dat false (.int .i64), .dat false (.sl (.int .i64))], .box true [.int .i64], .box true [.int .i64, .int .i64, .int .i64], .box true [.int .i64]], []⟩
def O34_0q : List (Ex × Spec) := [(.exit 0, X0_34_0q)]
def c34_0q (f : fits_move_isShort_L0T) (d : I34_0q.den) : Option fits_move_isShort_L0X := f d.1.1.1 d.1.2.2.2.2.2.2.1.1 d.1.2.2.2.2.2.2.2.1.1 d.1.2.2.2.2.2.2.2.2.1.1 d.1.2.2.2.2.2.2.2.2.2.1.1 d.2.1.1 d.2.1.2.1 d.2.1.2.2.1 d.2.2.1.1 d.2.2.1.2.1 d.2.2.1.2.2.1 d.2.2.1.2.2.2.1 d.2.2.2.1.1 d.2.2.2.2.1.1 d.2.2.2.2.1.2.1 d.2.2.2.2.1.2.2.1 d.2.2.2.2.2.1.1
def T34_0q : OutD O34_0q → fits_move_isShort_L0X := fun d => (d.1.1.1, d.1.2.2.2.2.2.2.1.1, d.2.1.1, d.2.1.2.1, d.2.1.2.2.1, d.2.2.1.1, d.2.2.1.2.1, d.2.2.1.2.2.1, d.2.2.1.2.2.2.1, d.2.2.2.1.1, d.2.2.2.2.1.1, d.2.2.2.2.1.2.1, d.2.2.2.2.1.2.2.1, d.2.2.2.2.2.1.1)
def e34_0q : Elim fits_move_isShort_L0X := fun base x _ K => K (.exit 0) (stOf base X0_34_0q (((x.1, ()), (), (), (), (), (), (x.2.1, ()), ()), ((x.2.2.1, x.2.2.2.1, x.2.2.2.2.1, ()), (x.2.2.2.2.2.1, x.2.2.2.2.2.2.1, x.2.2.2.2.2.2.2.1, x.2.2.2.2.2.2.2.2.1, ()), (x.2.2.2.2.2.2.2.2.2.1, ()), (x.2.2.2.2.2.2.2.2.2.2.1, x.2.2.2.2.2.2.2.2.2.2.2.1, x.2.2.2.2.2.2.2.2.2.2.2.2.1, ()), (x.2.2.2.2.2.2.2.2.2.2.2.2.2, ()), ())))
def L34_0q : LoopSum := ⟨I34_0q, O34_0q, fits_move_isShort_L0X, fun k d => c34_0q (fits_move_isShort_L0 k k) d, e34_0q⟩
def A34q : Notes := ⟨[], [(7, L34_0q)]⟩
theorem B34q : EnvB E34q := env_n mixed_orders ⟨F28q, F29q, F33q, trivial⟩
theorem st34_0q : StepOK E34q A34q 0 59 (loopAt (bodyOf Proofs.Tryz.f178) 0) I34_0q O34_0q T34_0q c34_0q fits_move_isShort_L0b := by intro k rec d; kernel_rfl
theorem lk34_0q : LoopOK E34q.P 1000 0 59 (loopAt (bodyOf Proofs.Tryz.f178) 0) L34_0q := loop_b B34q st34_0q fits_move_isShort_L0 e34_0q (fun _ _ _ => rfl) loops0
def as34q : List AS := [.agg [.dat false (.int .i64), .dat false (.int .i64), .dat false (.sl (.int .i64))], .agg [.dat false y6q, .dat false (.sl (.int .i64)), .dat false (.int .i64), .dat false (.sl (.int .i64))], .c (.int .i64), .c (.dat false y10q)]
def rs34q : RS := .c (.bool)
def pk34q : Bool → RL rs34q.cells := fun x => (x, ())
def up34q : RL rs34q.cells → Bool := fun d => d.1
def s34q (k : Nat) (d : AD as34q) := fits_move_isShort k d.1 d.2.1 d.2.2.1 d.2.2.2.1 d.2.2.2.2.1 d.2.2.2.2.2.1 d.2.2.2.2.2.2.1 d.2.2.2.2.2.2.2.1 d.2.2.2.2.2.2.2.2.1
def R34q : Nat × Entry := (178, fun k nm args h => entry as34q rs34q (s34q k) pk34q nm args h)
theorem ev34q : EvOK E34q A34q 0 Proofs.Tryz.f178 as34q rs34q up34q s34q := by intro k d; kernel_rfl
theorem F34q : FnOK Proofs.Tryz.prog R34q := fn_b B34q ev34q (loops1 lk34_0q)

/-! ### giro/fits.Short -/
noncomputable def E35q : Env := ⟨Proofs.Tryz.prog, fun _ => false, sumsOf [R24q, R27q, R34q]⟩
def I35_0q : Spec := ⟨[(1, .c (.dat false y10q)), (2, .c (.lit (.ptr 1001000 0))), (5, .c (.lit (.ptr 1001001 0))), (6, .c (.lit (.osl 1001005 none))), (16, .c (.int .i64)), (17, .c (.int .i64))], [.box true [.dat false y6q, .dat false (.sl (.int .i64)), .dat false (.int .i64), .dat false (.sl (.int .i64))], .box true [.lit (.osl 1001002 none), .lit (.osl 1001003 none), .lit (.osl 1001004 none)], .arr true (.int .i64), .arr true (.int .i64), .mat, .arr true (.int .i64)], [(6, none, (.int .i64), false)]⟩
def X0_35_0q : Spec := ⟨[(6, .c (.lit (.osl 1001000 none)))], [.arr true (.int .i64)], []⟩
def O35_0q : List (Ex × Spec) := [(.exit 0, X0_35_0q)]
def c35_0q (f : fits_Short_L0T) (d : I35_0q.den) : Option (List Int) := f d.1.1.1 d.1.2.2.2.2.1.1 d.1.2.2.2.2.2.1.1 d.2.1.1 d.2.1.2.1 d.2.1.2.2.1 d.2.1.2.2.2.1 d.2.2.2.1 d.2.2.2.2.1 d.2.2.2.2.2.1 d.2.2.2.2.2.2.1
def T35_0q : OutD O35_0q → (List Int) := fun d => d.2.1
def e35_0q : Elim (List Int) := fun base x _ K => K (.exit 0) (stOf base X0_35_0q (((), ()), (x, ())))
def L35_0q : LoopSum := ⟨I35_0q, O35_0q, (List Int), fun k d => c35_0q (fits_Short_L0 k k) d, e35_0q⟩
def A35q : Notes := ⟨[], [(4, L35_0q)]⟩
theorem B35q : EnvB E35q := env_n mixed_orders ⟨F24q, F27q, F34q, trivial⟩
theorem st35_0q : StepOK E35q A35q 0 37 (loopAt (bodyOf Proofs.Tryz.f139) 0) I35_0q O35_0q T35_0q c35_0q fits_Short_L0b := by intro k rec d; kernel_rfl
theorem lk35_0q : LoopOK E35q.P 1000 0 37 (loopAt (bodyOf Proofs.Tryz.f139) 0) L35_0q := loop_b B35q st35_0q fits_Short_L0 e35_0q (fun _ _ _ => rfl) loops0
def as35q : List AS := [.agg [.dat false y6q, .dat false (.sl (.int .i64)), .dat false (.int .i64), .dat false (.sl (.int .i64))], .c (.dat false y10q)]
def rs35q : RS := .c (.own (.int .i64))
def pk35q : List Int → RL rs35q.cells := fun x => (x, ())
def up35q : RL rs35q.cells → List Int := fun d => d.1
def s35q (k : Nat) (d : AD as35q) := fits_Short k d.1 d.2.1 d.2.2.1 d.2.2.2.1 d.2.2.2.2.1
def R35q : Nat × Entry := (139, fun k nm args h => entry as35q rs35q (s35q k) pk35q nm args h)
theorem ev35q : EvOK E35q A35q 0 Proofs.Tryz.f139 as35q rs35q up35q s35q := by intro k d; kernel_rfl
theorem F35q : FnOK Proofs.Tryz.prog R35q := fn_b B35q ev35q (loops1 lk35_0q)

/-! ### giro/fits.Fits -/
noncomputable def E36q : Env := ⟨Proofs.Tryz.prog, fun _ => false, sumsOf [R20q, R35q]⟩
def A36q : Notes := ⟨[], []⟩
theorem B36q : EnvB E36q := env_n mixed_orders ⟨F20q, F35q, trivial⟩
def as36q : List AS := [.agg [.dat false y6q, .dat false (.sl (.int .i64)), .dat false (.int .i64), .dat false (.sl (.int .i64))], .c (.dat false y10q)]
def rs36q : RS := .c (.bool)
def pk36q : Bool → RL rs36q.cells := fun x => (x, ())
def up36q : RL rs36q.cells → Bool := fun d => d.1
def s36q (k : Nat) (d : AD as36q) := fits_Fits k d.1 d.2.1 d.2.2.1 d.2.2.2.1 d.2.2.2.2.1
def R36q : Nat × Entry := (102, fun k nm args h => entry as36q rs36q (s36q k) pk36q nm args h)
theorem ev36q : EvOK E36q A36q 0 Proofs.Tryz.f102 as36q rs36q up36q s36q := by intro k d; kernel_rfl
theorem F36q : FnOK Proofs.Tryz.prog R36q := fn_0 B36q ev36q

/-! ### giro/post.Post$1 -/
noncomputable def E37q : Env := ⟨Proofs.Tryz.prog, fun _ => false, sumsOf [R17q]⟩
def A37q : Notes := ⟨[], []⟩
theorem B37q : EnvB E37q := env_n mixed_orders ⟨F17q, trivial⟩
def as37q : List AS := [.agg [.int .i64, .int .i64, .int .i64, .int .i64, .int .i64, .int .i64, .int .i64], .ptr [.dat false y6q, .dat false (.sl (.int .i64)), .dat false (.int .i64), .dat false (.sl (.int .i64))]]
def rs37q : RS := .c (.bool)
def pk37q : Bool → RL rs37q.cells := fun x => (x, ())
def up37q : RL rs37q.cells → Bool := fun d => d.1
def s37q (k : Nat) (d : AD as37q) := post_Post_fn1 k d.1 d.2.1 d.2.2.1 d.2.2.2.1 d.2.2.2.2.1 d.2.2.2.2.2.1 d.2.2.2.2.2.2.1 d.2.2.2.2.2.2.2.1 d.2.2.2.2.2.2.2.2.1 d.2.2.2.2.2.2.2.2.2.1 d.2.2.2.2.2.2.2.2.2.2.1
def R37q : Nat × Entry := (140, fun k nm args h => entry as37q rs37q (s37q k) pk37q nm args h)
theorem ev37q : EvOK E37q A37q 0 Proofs.Tryz.f140 as37q rs37q up37q s37q := by intro k d; kernel_rfl
theorem F37q : FnOK Proofs.Tryz.prog R37q := fn_0 B37q ev37q

/-! ### slices.IndexFunc[[]giro/api.Pay,giro/api.Pay] -/
noncomputable def E38q : Env := ⟨Proofs.Tryz.prog, fun _ => false, sumsOf [R37q]⟩
def I38_0q : Spec := ⟨[(0, .c (.dat false y10q)), (1, .c (.lit (.fn 140 [1001000]))), (7, .c (.int .i64)), (8, .c (.int .i64))], [.robox [.dat false y6q, .dat false (.sl (.int .i64)), .dat false (.int .i64), .dat false (.sl (.int .i64))]], []⟩
def X0_38_0q : Spec := ⟨[], [], []⟩
def X1_38_0q : Spec := ⟨[(4, .c (.int .i64))], [], []⟩
def O38_0q : List (Ex × Spec) := [(.exit 0, X0_38_0q), (.ret, X1_38_0q)]
def c38_0q (f : slices_IndexFunc_Pay__post_Post_fn1_L0T) (d : I38_0q.den) : Option (Unit ⊕ Int) := f d.1.1.1 d.1.2.2.1.1 d.1.2.2.2.1.1 d.2.1.1 d.2.1.2.1 d.2.1.2.2.1 d.2.1.2.2.2.1
def T38_0q : OutD O38_0q → (Unit ⊕ Int)
 | .inl d => .inl ()
 | .inr d => .inr d.1.1.1
def e38_0q : Elim (Unit ⊕ Int) := fun base x _ K => match x with
 | .inl x => K (.exit 0) (stOf base X0_38_0q ((), ()))
 | .inr x => K .ret (stOf base X1_38_0q (((x, ()), ()), ()))
def L38_0q : LoopSum := ⟨I38_0q, O38_0q, (Unit ⊕ Int), fun k d => c38_0q (slices_IndexFunc_Pay__post_Post_fn1_L0 k k) d, e38_0q⟩
def A38q : Notes := ⟨[], [(2, L38_0q)]⟩
theorem B38q : EnvB E38q := env_n mixed_orders ⟨F37q, trivial⟩
theorem st38_0q : StepOK E38q A38q 0 19 (loopAt (bodyOf Proofs.Tryz.f95) 0) I38_0q O38_0q T38_0q c38_0q slices_IndexFunc_Pay__post_Post_fn1_L0b := by intro k rec d; kernel_rfl
theorem lk38_0q : LoopOK E38q.P 1000 0 19 (loopAt (bodyOf Proofs.Tryz.f95) 0) L38_0q := loop_b B38q st38_0q slices_IndexFunc_Pay__post_Post_fn1_L0 e38_0q (by intro o R K; rcases o with o | o <;> rfl) loops0
def as38q : List AS := [.c (.dat false y10q), .fn 140 [[.dat false y6q, .dat false (.sl (.int .i64)), .dat false (.int .i64), .dat false (.sl (.int .i64))]]]
def rs38q : RS := .c (.int .i64)
def pk38q : Int → RL rs38q.cells := fun x => (x, ())
def up38q : RL rs38q.cells → Int := fun d => d.1
def s38q (k : Nat) (d : AD as38q) := slices_IndexFunc_Pay__post_Post_fn1 k d.1 d.2.1 d.2.2.1 d.2.2.2.1 d.2.2.2.2.1
def R38q : Nat × Entry := (95, fun k nm args h => entry as38q rs38q (s38q k) pk38q nm args h)
theorem ev38q : EvOK E38q A38q 0 Proofs.Tryz.f95 as38q rs38q up38q s38q := by intro k d; kernel_rfl
theorem F38q : FnOK Proofs.Tryz.prog R38q := fn_b B38q ev38q (loops1 lk38_0q)

/-! ### slices.ContainsFunc[[]giro/api.Pay,giro/api.Pay] -/
noncomputable def E39q : Env := ⟨Proofs.Tryz.prog, fun _ => false, sumsOf [R38q]⟩
def A39q : Notes := ⟨[], []⟩
theorem B39q : EnvB E39q := env_n mixed_orders ⟨F38q, trivial⟩
def as39q : List AS := [.c (.dat false y10q), .fn 140 [[.dat false y6q, .dat false (.sl (.int .i64)), .dat false (.int .i64), .dat false (.sl (.int .i64))]]]
def rs39q : RS := .c (.bool)
def pk39q : Bool → RL rs39q.cells := fun x => (x, ())
def up39q : RL rs39q.cells → Bool := fun d => d.1
def s39q (k : Nat) (d : AD as39q) := slices_ContainsFunc_Pay__post_Post_fn1 k d.1 d.2.1 d.2.2.1 d.2.2.2.1 d.2.2.2.2.1
def R39q : Nat × Entry := (136, fun k nm args h => entry as39q rs39q (s39q k) pk39q nm args h)
theorem ev39q : EvOK E39q A39q 0 Proofs.Tryz.f136 as39q rs39q up39q s39q := by intro k d; kernel_rfl
theorem F39q : FnOK Proofs.Tryz.prog R39q := fn_0 B39q ev39q

/-! ### slices.Clone[[]giro/api.Acct,giro/api.Acct] -/
noncomputable def E40q : Env := ⟨Proofs.Tryz.prog, fun _ => false, sumsOf []⟩
def A40q : Notes := ⟨[], []⟩
theorem B40q : EnvB E40q := env_n mixed_orders trivial
def as40q : List AS := [.c (.dat false y6q)]
def rs40q : RS := .c (.own y6q)
def pk40q : List K4q → RL rs40q.cells := fun x => (x, ())
def up40q : RL rs40q.cells → List K4q := fun d => d.1
def s40q (k : Nat) (d : AD as40q) := slices_Clone_Acct k d.1
def R40q : Nat × Entry := (165, fun k nm args h => entry as40q rs40q (fun d => slices_Clone_Acct k d.1) pk40q nm args h)
theorem nil40q (k : Nat) : evF E40q A40q k 1000 0 Proofs.Tryz.f165 [.c .nsl] (boxHp []) (outM rs40q up40q) = slices_Clone_Acct k [] := by kernel_rfl
theorem ev40q (k : Nat) (xs : List K4q) : evF E40q A40q k 1000 0 Proofs.Tryz.f165 [.c (.nfl false y6q xs)] (boxHp []) (outM rs40q up40q) = slices_Clone_Acct k xs := by kernel_rfl
theorem F40q : FnOK Proofs.Tryz.prog R40q := fn_nil (t := y6q) (S := slices_Clone_Acct) (unpack := up40q) B40q nil40q ev40q loops0

/-! ### slices.Clone[[][]int64,[]int64] -/
noncomputable def E41q : Env := ⟨Proofs.Tryz.prog, fun _ => false, sumsOf []⟩
def A41q : Notes := ⟨[], []⟩
theorem B41q : EnvB E41q := env_n mixed_orders trivial
def as41q : List AS := [.c (.dat true (.sl (.int .i64)))]
def rs41q : RS := .c (.jun)
def pk41q : Nat → RL rs41q.cells := fun x => (x, ())
def up41q : RL rs41q.cells → Nat := fun d => d.1
def s41q (k : Nat) (d : AD as41q) := slices_Clone_Rowint64 k d.1
def R41q : Nat × Entry := (123, fun k nm args h => entry as41q rs41q (fun d => slices_Clone_Rowint64 k d.1) pk41q nm args h)
theorem nil41q (k : Nat) : evF E41q A41q k 1000 0 Proofs.Tryz.f123 [.c .nsl] (boxHp []) (outM rs41q up41q) = slices_Clone_Rowint64 k [] := by kernel_rfl
theorem ev41q (k : Nat) (xs : List (List Int)) : evF E41q A41q k 1000 0 Proofs.Tryz.f123 [.c (.nfl true (.sl (.int .i64)) xs)] (boxHp []) (outM rs41q up41q) = slices_Clone_Rowint64 k xs := by kernel_rfl
theorem F41q : FnOK Proofs.Tryz.prog R41q := fn_nil (t := (.sl (.int .i64))) (S := slices_Clone_Rowint64) (unpack := up41q) B41q nil41q ev41q loops0

/-! ### slices.Clone[[]int64,int64] -/
noncomputable def E42q : Env := ⟨Proofs.Tryz.prog, fun _ => false, sumsOf []⟩
def A42q : Notes := ⟨[], []⟩
theorem B42q : EnvB E42q := env_n mixed_orders trivial
def as42q : List AS := [.c (.dat false (.int .i64))]
def rs42q : RS := .c (.own (.int .i64))
def pk42q : List Int → RL rs42q.cells := fun x => (x, ())
def up42q : RL rs42q.cells → List Int := fun d => d.1
def s42q (k : Nat) (d : AD as42q) := slices_Clone_int64 k d.1
def R42q : Nat × Entry := (160, fun k nm args h => entry as42q rs42q (fun d => slices_Clone_int64 k d.1) pk42q nm args h)
theorem nil42q (k : Nat) : evF E42q A42q k 1000 0 Proofs.Tryz.f160 [.c .nsl] (boxHp []) (outM rs42q up42q) = slices_Clone_int64 k [] := by kernel_rfl
theorem ev42q (k : Nat) (xs : List Int) : evF E42q A42q k 1000 0 Proofs.Tryz.f160 [.c (.nfl false (.int .i64) xs)] (boxHp []) (outM rs42q up42q) = slices_Clone_int64 k xs := by kernel_rfl
theorem F42q : FnOK Proofs.Tryz.prog R42q := fn_nil (t := (.int .i64)) (S := slices_Clone_int64) (unpack := up42q) B42q nil42q ev42q loops0

/-! ### giro/lim.copied -/
noncomputable def E43q : Env := ⟨Proofs.Tryz.prog, fun _ => false, sumsOf [R41q, R42q]⟩
def I43_0q : Spec := ⟨[(3, .c (.lit (.osl 1001000 none))), (8, .c (.dat true (.sl (.int .i64)))), (9, .c (.int .i64)), (10, .c (.int .i64))], [.pmat], []⟩
def X0_43_0q : Spec := ⟨[(3, .c (.lit (.osl 1001000 none)))], [.pmat], []⟩
def O43_0q : List (Ex × Spec) := [(.exit 0, X0_43_0q)]
def c43_0q (f : lim_copied_L0T) (d : I43_0q.den) : Option ((List (List Int)) × Nat) := f d.1.2.1.1 d.1.2.2.1.1 d.1.2.2.2.1.1 d.2.1.1 d.2.1.2
def T43_0q : OutD O43_0q → ((List (List Int)) × Nat) := fun d => (d.2.1.1, d.2.1.2)
def e43_0q : Elim ((List (List Int)) × Nat) := fun base x _ K => K (.exit 0) (stOf base X0_43_0q (((), ()), ((x.1, x.2), ())))
def L43_0q : LoopSum := ⟨I43_0q, O43_0q, ((List (List Int)) × Nat), fun k d => c43_0q (lim_copied_L0 k k) d, e43_0q⟩
def A43q : Notes := ⟨[], [(3, L43_0q)]⟩
theorem B43q : EnvB E43q := env_n mixed_orders ⟨F41q, F42q, trivial⟩
theorem st43_0q : StepOK E43q A43q 0 22 (loopAt (bodyOf Proofs.Tryz.f166) 0) I43_0q O43_0q T43_0q c43_0q lim_copied_L0b := by intro k rec d; kernel_rfl
theorem lk43_0q : LoopOK E43q.P 1000 0 22 (loopAt (bodyOf Proofs.Tryz.f166) 0) L43_0q := loop_b B43q st43_0q lim_copied_L0 e43_0q (fun _ _ _ => rfl) loops0
def as43q : List AS := [.c (.dat true (.sl (.int .i64)))]
def rs43q : RS := .c (.mat)
def pk43q : List (List Int) → RL rs43q.cells := fun x => (x, ())
def up43q : RL rs43q.cells → List (List Int) := fun d => d.1
def s43q (k : Nat) (d : AD as43q) := lim_copied k d.1
def R43q : Nat × Entry := (166, fun k nm args h => entry as43q rs43q (s43q k) pk43q nm args h)
theorem ev43q : EvOK E43q A43q 0 Proofs.Tryz.f166 as43q rs43q up43q s43q := by intro k d; kernel_rfl
theorem F43q : FnOK Proofs.Tryz.prog R43q := fn_b B43q ev43q (loops1 lk43_0q)

/-! ### giro/lim.Copy -/
noncomputable def E44q : Env := ⟨Proofs.Tryz.prog, fun _ => false, sumsOf [R40q, R43q, R42q]⟩
def A44q : Notes := ⟨[], []⟩
theorem B44q : EnvB E44q := env_n mixed_orders ⟨F40q, F43q, F42q, trivial⟩
def as44q : List AS := [.agg [.dat false y6q, .dat true (.sl (.int .i64)), .dat false (.int .i64), .dat true (.sl (.int .i64))]]
def rs44q : RS := .agg [.own y6q, .mat, .own (.int .i64), .mat]
def pk44q : (List K4q) × (List (List Int)) × (List Int) × (List (List Int)) → RL rs44q.cells := fun x => (x.1, x.2.1, x.2.2.1, x.2.2.2, ())
def up44q : RL rs44q.cells → (List K4q) × (List (List Int)) × (List Int) × (List (List Int)) := fun d => (d.1, d.2.1, d.2.2.1, d.2.2.2.1)
def s44q (k : Nat) (d : AD as44q) := lim_Copy k d.1 d.2.1 d.2.2.1 d.2.2.2.1
def R44q : Nat × Entry := (120, fun k nm args h => entry as44q rs44q (s44q k) pk44q nm args h)
theorem ev44q : EvOK E44q A44q 0 Proofs.Tryz.f120 as44q rs44q up44q s44q := by intro k d; kernel_rfl
theorem F44q : FnOK Proofs.Tryz.prog R44q := fn_0 B44q ev44q

/-! ### giro/acct.Is -/
noncomputable def E45q : Env := ⟨Proofs.Tryz.prog, fun _ => false, sumsOf []⟩
def A45q : Notes := ⟨[], []⟩
theorem B45q : EnvB E45q := env_n mixed_orders trivial
def as45q : List AS := [.agg [.int .i64, .int .i64, .int .i64]]
def rs45q : RS := .c (.bool)
def pk45q : Bool → RL rs45q.cells := fun x => (x, ())
def up45q : RL rs45q.cells → Bool := fun d => d.1
def s45q (k : Nat) (d : AD as45q) := acct_Is k d.1 d.2.1 d.2.2.1
def R45q : Nat × Entry := (143, fun k nm args h => entry as45q rs45q (s45q k) pk45q nm args h)
theorem ev45q : EvOK E45q A45q 0 Proofs.Tryz.f143 as45q rs45q up45q s45q := by intro k d; kernel_rfl
theorem F45q : FnOK Proofs.Tryz.prog R45q := fn_0 B45q ev45q

/-! ### giro/lim.Is$1 -/
noncomputable def E46q : Env := ⟨Proofs.Tryz.prog, fun _ => false, sumsOf [R45q]⟩
def A46q : Notes := ⟨[], []⟩
theorem B46q : EnvB E46q := env_n mixed_orders ⟨F45q, trivial⟩
def as46q : List AS := [.agg [.int .i64, .int .i64, .int .i64]]
def rs46q : RS := .c (.bool)
def pk46q : Bool → RL rs46q.cells := fun x => (x, ())
def up46q : RL rs46q.cells → Bool := fun d => d.1
def s46q (k : Nat) (d : AD as46q) := lim_Is_fn1 k d.1 d.2.1 d.2.2.1
def R46q : Nat × Entry := (142, fun k nm args h => entry as46q rs46q (s46q k) pk46q nm args h)
theorem ev46q : EvOK E46q A46q 0 Proofs.Tryz.f142 as46q rs46q up46q s46q := by intro k d; kernel_rfl
theorem F46q : FnOK Proofs.Tryz.prog R46q := fn_0 B46q ev46q

/-! ### slices.IndexFunc[[]giro/api.Acct,giro/api.Acct] -/
noncomputable def E47q : Env := ⟨Proofs.Tryz.prog, fun _ => false, sumsOf [R46q]⟩
def I47_0q : Spec := ⟨[(0, .c (.dat false y6q)), (1, .c (.lit (.fn 142 []))), (7, .c (.int .i64)), (8, .c (.int .i64))], [], []⟩
def X0_47_0q : Spec := ⟨[], [], []⟩
def X1_47_0q : Spec := ⟨[(4, .c (.int .i64))], [], []⟩
def O47_0q : List (Ex × Spec) := [(.exit 0, X0_47_0q), (.ret, X1_47_0q)]
def c47_0q (f : slices_IndexFunc_Acct__lim_Is_fn1_L0T) (d : I47_0q.den) : Option (Unit ⊕ Int) := f d.1.1.1 d.1.2.2.1.1 d.1.2.2.2.1.1
def T47_0q : OutD O47_0q → (Unit ⊕ Int)
 | .inl d => .inl ()
 | .inr d => .inr d.1.1.1
def e47_0q : Elim (Unit ⊕ Int) := fun base x _ K => match x with
 | .inl x => K (.exit 0) (stOf base X0_47_0q ((), ()))
 | .inr x => K .ret (stOf base X1_47_0q (((x, ()), ()), ()))
def L47_0q : LoopSum := ⟨I47_0q, O47_0q, (Unit ⊕ Int), fun k d => c47_0q (slices_IndexFunc_Acct__lim_Is_fn1_L0 k k) d, e47_0q⟩
def A47q : Notes := ⟨[], [(2, L47_0q)]⟩
theorem B47q : EnvB E47q := env_n mixed_orders ⟨F46q, trivial⟩
theorem st47_0q : StepOK E47q A47q 0 19 (loopAt (bodyOf Proofs.Tryz.f179) 0) I47_0q O47_0q T47_0q c47_0q slices_IndexFunc_Acct__lim_Is_fn1_L0b := by intro k rec d; kernel_rfl
theorem lk47_0q : LoopOK E47q.P 1000 0 19 (loopAt (bodyOf Proofs.Tryz.f179) 0) L47_0q := loop_b B47q st47_0q slices_IndexFunc_Acct__lim_Is_fn1_L0 e47_0q (by intro o R K; rcases o with o | o <;> rfl) loops0
def as47q : List AS := [.c (.dat false y6q), .c (.fn 142)]
def rs47q : RS := .c (.int .i64)
def pk47q : Int → RL rs47q.cells := fun x => (x, ())
def up47q : RL rs47q.cells → Int := fun d => d.1
def s47q (k : Nat) (d : AD as47q) := slices_IndexFunc_Acct__lim_Is_fn1 k d.1
def R47q : Nat × Entry := (179, fun k nm args h => entry as47q rs47q (s47q k) pk47q nm args h)
theorem ev47q : EvOK E47q A47q 0 Proofs.Tryz.f179 as47q rs47q up47q s47q := by intro k d; kernel_rfl
theorem F47q : FnOK Proofs.Tryz.prog R47q := fn_b B47q ev47q (loops1 lk47_0q)

/-! ### slices.ContainsFunc[[]giro/api.Acct,giro/api.Acct] -/
noncomputable def E48q : Env := ⟨Proofs.Tryz.prog, fun _ => false, sumsOf [R47q]⟩
def A48q : Notes := ⟨[], []⟩
theorem B48q : EnvB E48q := env_n mixed_orders ⟨F47q, trivial⟩
def as48q : List AS := [.c (.dat false y6q), .c (.fn 142)]
def rs48q : RS := .c (.bool)
def pk48q : Bool → RL rs48q.cells := fun x => (x, ())
def up48q : RL rs48q.cells → Bool := fun d => d.1
def s48q (k : Nat) (d : AD as48q) := slices_ContainsFunc_Acct__lim_Is_fn1 k d.1
def R48q : Nat × Entry := (144, fun k nm args h => entry as48q rs48q (s48q k) pk48q nm args h)
theorem ev48q : EvOK E48q A48q 0 Proofs.Tryz.f144 as48q rs48q up48q s48q := by intro k d; kernel_rfl
theorem F48q : FnOK Proofs.Tryz.prog R48q := fn_0 B48q ev48q

/-! ### giro/lim.isLimit -/
noncomputable def E49q : Env := ⟨Proofs.Tryz.prog, fun _ => false, sumsOf []⟩
def A49q : Notes := ⟨[], []⟩
theorem B49q : EnvB E49q := env_n mixed_orders trivial
def as49q : List AS := [.c (.int .i64)]
def rs49q : RS := .c (.bool)
def pk49q : Bool → RL rs49q.cells := fun x => (x, ())
def up49q : RL rs49q.cells → Bool := fun d => d.1
def s49q (k : Nat) (d : AD as49q) := lim_isLimit k d.1
def R49q : Nat × Entry := (146, fun k nm args h => entry as49q rs49q (s49q k) pk49q nm args h)
theorem ev49q : EvOK E49q A49q 0 Proofs.Tryz.f146 as49q rs49q up49q s49q := by intro k d; kernel_rfl
theorem F49q : FnOK Proofs.Tryz.prog R49q := fn_0 B49q ev49q

/-! ### giro/lim.isRow$1 -/
noncomputable def E50q : Env := ⟨Proofs.Tryz.prog, fun _ => false, sumsOf [R49q]⟩
def A50q : Notes := ⟨[], []⟩
theorem B50q : EnvB E50q := env_n mixed_orders ⟨F49q, trivial⟩
def as50q : List AS := [.c (.int .i64), .ptr [.fn 146]]
def rs50q : RS := .c (.bool)
def pk50q : Bool → RL rs50q.cells := fun x => (x, ())
def up50q : RL rs50q.cells → Bool := fun d => d.1
def s50q (k : Nat) (d : AD as50q) := lim_isRow_fn1__lim_isLimit k d.1
def R50q : Nat × Entry := (180, fun k nm args h => entry as50q rs50q (s50q k) pk50q nm args h)
theorem ev50q : EvOK E50q A50q 0 Proofs.Tryz.f180 as50q rs50q up50q s50q := by intro k d; kernel_rfl
theorem F50q : FnOK Proofs.Tryz.prog R50q := fn_0 B50q ev50q

/-! ### slices.IndexFunc[[]int64,int64] -/
noncomputable def E51q : Env := ⟨Proofs.Tryz.prog, fun _ => false, sumsOf [R50q]⟩
def I51_0q : Spec := ⟨[(0, .c (.dat false (.int .i64))), (1, .c (.lit (.fn 180 [1001000]))), (7, .c (.int .i64)), (8, .c (.int .i64))], [.robox [.lit (.fn 146 [])]], []⟩
def X0_51_0q : Spec := ⟨[], [], []⟩
def X1_51_0q : Spec := ⟨[(4, .c (.int .i64))], [], []⟩
def O51_0q : List (Ex × Spec) := [(.exit 0, X0_51_0q), (.ret, X1_51_0q)]
def c51_0q (f : slices_IndexFunc_int64__lim_isRow_fn1__lim_isLimit_L0T) (d : I51_0q.den) : Option (Unit ⊕ Int) := f d.1.1.1 d.1.2.2.1.1 d.1.2.2.2.1.1
def T51_0q : OutD O51_0q → (Unit ⊕ Int)
 | .inl d => .inl ()
 | .inr d => .inr d.1.1.1
def e51_0q : Elim (Unit ⊕ Int) := fun base x _ K => match x with
 | .inl x => K (.exit 0) (stOf base X0_51_0q ((), ()))
 | .inr x => K .ret (stOf base X1_51_0q (((x, ()), ()), ()))
def L51_0q : LoopSum := ⟨I51_0q, O51_0q, (Unit ⊕ Int), fun k d => c51_0q (slices_IndexFunc_int64__lim_isRow_fn1__lim_isLimit_L0 k k) d, e51_0q⟩
def A51q : Notes := ⟨[], [(2, L51_0q)]⟩
theorem B51q : EnvB E51q := env_n mixed_orders ⟨F50q, trivial⟩
theorem st51_0q : StepOK E51q A51q 0 19 (loopAt (bodyOf Proofs.Tryz.f181) 0) I51_0q O51_0q T51_0q c51_0q slices_IndexFunc_int64__lim_isRow_fn1__lim_isLimit_L0b := by intro k rec d; kernel_rfl
theorem lk51_0q : LoopOK E51q.P 1000 0 19 (loopAt (bodyOf Proofs.Tryz.f181) 0) L51_0q := loop_b B51q st51_0q slices_IndexFunc_int64__lim_isRow_fn1__lim_isLimit_L0 e51_0q (by intro o R K; rcases o with o | o <;> rfl) loops0
def as51q : List AS := [.c (.dat false (.int .i64)), .fn 180 [[.fn 146]]]
def rs51q : RS := .c (.int .i64)
def pk51q : Int → RL rs51q.cells := fun x => (x, ())
def up51q : RL rs51q.cells → Int := fun d => d.1
def s51q (k : Nat) (d : AD as51q) := slices_IndexFunc_int64__lim_isRow_fn1__lim_isLimit k d.1
def R51q : Nat × Entry := (181, fun k nm args h => entry as51q rs51q (s51q k) pk51q nm args h)
theorem ev51q : EvOK E51q A51q 0 Proofs.Tryz.f181 as51q rs51q up51q s51q := by intro k d; kernel_rfl
theorem F51q : FnOK Proofs.Tryz.prog R51q := fn_b B51q ev51q (loops1 lk51_0q)

/-! ### slices.ContainsFunc[[]int64,int64] -/
noncomputable def E52q : Env := ⟨Proofs.Tryz.prog, fun _ => false, sumsOf [R51q]⟩
def A52q : Notes := ⟨[], []⟩
theorem B52q : EnvB E52q := env_n mixed_orders ⟨F51q, trivial⟩
def as52q : List AS := [.c (.dat false (.int .i64)), .fn 180 [[.fn 146]]]
def rs52q : RS := .c (.bool)
def pk52q : Bool → RL rs52q.cells := fun x => (x, ())
def up52q : RL rs52q.cells → Bool := fun d => d.1
def s52q (k : Nat) (d : AD as52q) := slices_ContainsFunc_int64__lim_isRow_fn1__lim_isLimit k d.1
def R52q : Nat × Entry := (150, fun k nm args h => entry as52q rs52q (s52q k) pk52q nm args h)
theorem ev52q : EvOK E52q A52q 0 Proofs.Tryz.f150 as52q rs52q up52q s52q := by intro k d; kernel_rfl
theorem F52q : FnOK Proofs.Tryz.prog R52q := fn_0 B52q ev52q

/-! ### giro/lim.isRow -/
noncomputable def E53q : Env := ⟨Proofs.Tryz.prog, fun _ => false, sumsOf [R52q]⟩
def A53q : Notes := ⟨[], []⟩
theorem B53q : EnvB E53q := env_n mixed_orders ⟨F52q, trivial⟩
def as53q : List AS := [.c (.dat false (.int .i64)), .c (.int .i64), .c (.fn 146)]
def rs53q : RS := .c (.bool)
def pk53q : Bool → RL rs53q.cells := fun x => (x, ())
def up53q : RL rs53q.cells → Bool := fun d => d.1
def s53q (k : Nat) (d : AD as53q) := lim_isRow__lim_isLimit k d.1 d.2.1
def R53q : Nat × Entry := (147, fun k nm args h => entry as53q rs53q (s53q k) pk53q nm args h)
theorem ev53q : EvOK E53q A53q 0 Proofs.Tryz.f147 as53q rs53q up53q s53q := by intro k d; kernel_rfl
theorem F53q : FnOK Proofs.Tryz.prog R53q := fn_0 B53q ev53q

/-! ### giro/lim.isSquare -/
noncomputable def E54q : Env := ⟨Proofs.Tryz.prog, fun _ => false, sumsOf [R53q]⟩
def I54_0q : Spec := ⟨[(1, .c (.int .i64)), (2, .c (.lit (.fn 146 []))), (13, .c (.dat false (.sl (.int .i64)))), (14, .c (.int .i64)), (15, .c (.int .i64))], [], []⟩
def X0_54_0q : Spec := ⟨[], [], []⟩
def X1_54_0q : Spec := ⟨[(6, .c (.bool))], [], []⟩
def O54_0q : List (Ex × Spec) := [(.exit 0, X0_54_0q), (.ret, X1_54_0q)]
def c54_0q (f : lim_isSquare__lim_isLimit_L0T) (d : I54_0q.den) : Option (Unit ⊕ Bool) := f d.1.1.1 d.1.2.2.1.1 d.1.2.2.2.1.1 d.1.2.2.2.2.1.1
def T54_0q : OutD O54_0q → (Unit ⊕ Bool)
 | .inl d => .inl ()
 | .inr d => .inr d.1.1.1
def e54_0q : Elim (Unit ⊕ Bool) := fun base x _ K => match x with
 | .inl x => K (.exit 0) (stOf base X0_54_0q ((), ()))
 | .inr x => K .ret (stOf base X1_54_0q (((x, ()), ()), ()))
def L54_0q : LoopSum := ⟨I54_0q, O54_0q, (Unit ⊕ Bool), fun k d => c54_0q (lim_isSquare__lim_isLimit_L0 k k) d, e54_0q⟩
def A54q : Notes := ⟨[], [(4, L54_0q)]⟩
theorem B54q : EnvB E54q := env_n mixed_orders ⟨F53q, trivial⟩
theorem st54_0q : StepOK E54q A54q 0 25 (loopAt (bodyOf Proofs.Tryz.f145) 0) I54_0q O54_0q T54_0q c54_0q lim_isSquare__lim_isLimit_L0b := by intro k rec d; kernel_rfl
theorem lk54_0q : LoopOK E54q.P 1000 0 25 (loopAt (bodyOf Proofs.Tryz.f145) 0) L54_0q := loop_b B54q st54_0q lim_isSquare__lim_isLimit_L0 e54_0q (by intro o R K; rcases o with o | o <;> rfl) loops0
def as54q : List AS := [.c (.dat false (.sl (.int .i64))), .c (.int .i64), .c (.fn 146)]
def rs54q : RS := .c (.bool)
def pk54q : Bool → RL rs54q.cells := fun x => (x, ())
def up54q : RL rs54q.cells → Bool := fun d => d.1
def s54q (k : Nat) (d : AD as54q) := lim_isSquare__lim_isLimit k d.1 d.2.1
def R54q : Nat × Entry := (145, fun k nm args h => entry as54q rs54q (s54q k) pk54q nm args h)
theorem ev54q : EvOK E54q A54q 0 Proofs.Tryz.f145 as54q rs54q up54q s54q := by intro k d; kernel_rfl
theorem F54q : FnOK Proofs.Tryz.prog R54q := fn_b B54q ev54q (loops1 lk54_0q)

/-! ### giro/lim.isNet -/
noncomputable def E55q : Env := ⟨Proofs.Tryz.prog, fun _ => false, sumsOf []⟩
def A55q : Notes := ⟨[], []⟩
theorem B55q : EnvB E55q := env_n mixed_orders trivial
def as55q : List AS := [.c (.int .i64)]
def rs55q : RS := .c (.bool)
def pk55q : Bool → RL rs55q.cells := fun x => (x, ())
def up55q : RL rs55q.cells → Bool := fun d => d.1
def s55q (k : Nat) (d : AD as55q) := lim_isNet k d.1
def R55q : Nat × Entry := (148, fun k nm args h => entry as55q rs55q (s55q k) pk55q nm args h)
theorem ev55q : EvOK E55q A55q 0 Proofs.Tryz.f148 as55q rs55q up55q s55q := by intro k d; kernel_rfl
theorem F55q : FnOK Proofs.Tryz.prog R55q := fn_0 B55q ev55q

/-! ### giro/lim.isRow$1 -/
noncomputable def E56q : Env := ⟨Proofs.Tryz.prog, fun _ => false, sumsOf [R55q]⟩
def A56q : Notes := ⟨[], []⟩
theorem B56q : EnvB E56q := env_n mixed_orders ⟨F55q, trivial⟩
def as56q : List AS := [.c (.int .i64), .ptr [.fn 148]]
def rs56q : RS := .c (.bool)
def pk56q : Bool → RL rs56q.cells := fun x => (x, ())
def up56q : RL rs56q.cells → Bool := fun d => d.1
def s56q (k : Nat) (d : AD as56q) := lim_isRow_fn1__lim_isNet k d.1
def R56q : Nat × Entry := (180, fun k nm args h => entry as56q rs56q (s56q k) pk56q nm args h)
theorem ev56q : EvOK E56q A56q 0 Proofs.Tryz.f180 as56q rs56q up56q s56q := by intro k d; kernel_rfl
theorem F56q : FnOK Proofs.Tryz.prog R56q := fn_0 B56q ev56q

/-! ### slices.IndexFunc[[]int64,int64] -/
noncomputable def E57q : Env := ⟨Proofs.Tryz.prog, fun _ => false, sumsOf [R56q]⟩
def I57_0q : Spec := ⟨[(0, .c (.dat false (.int .i64))), (1, .c (.lit (.fn 180 [1001000]))), (7, .c (.int .i64)), (8, .c (.int .i64))], [.robox [.lit (.fn 148 [])]], []⟩
def X0_57_0q : Spec := ⟨[], [], []⟩
def X1_57_0q : Spec := ⟨[(4, .c (.int .i64))], [], []⟩
def O57_0q : List (Ex × Spec) := [(.exit 0, X0_57_0q), (.ret, X1_57_0q)]
def c57_0q (f : slices_IndexFunc_int64__lim_isRow_fn1__lim_isNet_L0T) (d : I57_0q.den) : Option (Unit ⊕ Int) := f d.1.1.1 d.1.2.2.1.1 d.1.2.2.2.1.1
def T57_0q : OutD O57_0q → (Unit ⊕ Int)
 | .inl d => .inl ()
 | .inr d => .inr d.1.1.1
def e57_0q : Elim (Unit ⊕ Int) := fun base x _ K => match x with
 | .inl x => K (.exit 0) (stOf base X0_57_0q ((), ()))
 | .inr x => K .ret (stOf base X1_57_0q (((x, ()), ()), ()))
def L57_0q : LoopSum := ⟨I57_0q, O57_0q, (Unit ⊕ Int), fun k d => c57_0q (slices_IndexFunc_int64__lim_isRow_fn1__lim_isNet_L0 k k) d, e57_0q⟩
def A57q : Notes := ⟨[], [(2, L57_0q)]⟩
theorem B57q : EnvB E57q := env_n mixed_orders ⟨F56q, trivial⟩
theorem st57_0q : StepOK E57q A57q 0 19 (loopAt (bodyOf Proofs.Tryz.f181) 0) I57_0q O57_0q T57_0q c57_0q slices_IndexFunc_int64__lim_isRow_fn1__lim_isNet_L0b := by intro k rec d; kernel_rfl
theorem lk57_0q : LoopOK E57q.P 1000 0 19 (loopAt (bodyOf Proofs.Tryz.f181) 0) L57_0q := loop_b B57q st57_0q slices_IndexFunc_int64__lim_isRow_fn1__lim_isNet_L0 e57_0q (by intro o R K; rcases o with o | o <;> rfl) loops0
def as57q : List AS := [.c (.dat false (.int .i64)), .fn 180 [[.fn 148]]]
def rs57q : RS := .c (.int .i64)
def pk57q : Int → RL rs57q.cells := fun x => (x, ())
def up57q : RL rs57q.cells → Int := fun d => d.1
def s57q (k : Nat) (d : AD as57q) := slices_IndexFunc_int64__lim_isRow_fn1__lim_isNet k d.1
def R57q : Nat × Entry := (181, fun k nm args h => entry as57q rs57q (s57q k) pk57q nm args h)
theorem ev57q : EvOK E57q A57q 0 Proofs.Tryz.f181 as57q rs57q up57q s57q := by intro k d; kernel_rfl
theorem F57q : FnOK Proofs.Tryz.prog R57q := fn_b B57q ev57q (loops1 lk57_0q)

/-! ### slices.ContainsFunc[[]int64,int64] -/
noncomputable def E58q : Env := ⟨Proofs.Tryz.prog, fun _ => false, sumsOf [R57q]⟩
def A58q : Notes := ⟨[], []⟩
theorem B58q : EnvB E58q := env_n mixed_orders ⟨F57q, trivial⟩
def as58q : List AS := [.c (.dat false (.int .i64)), .fn 180 [[.fn 148]]]
def rs58q : RS := .c (.bool)
def pk58q : Bool → RL rs58q.cells := fun x => (x, ())
def up58q : RL rs58q.cells → Bool := fun d => d.1
def s58q (k : Nat) (d : AD as58q) := slices_ContainsFunc_int64__lim_isRow_fn1__lim_isNet k d.1
def R58q : Nat × Entry := (150, fun k nm args h => entry as58q rs58q (s58q k) pk58q nm args h)
theorem ev58q : EvOK E58q A58q 0 Proofs.Tryz.f150 as58q rs58q up58q s58q := by intro k d; kernel_rfl
theorem F58q : FnOK Proofs.Tryz.prog R58q := fn_0 B58q ev58q

/-! ### giro/lim.isRow -/
noncomputable def E59q : Env := ⟨Proofs.Tryz.prog, fun _ => false, sumsOf [R58q]⟩
def A59q : Notes := ⟨[], []⟩
theorem B59q : EnvB E59q := env_n mixed_orders ⟨F58q, trivial⟩
def as59q : List AS := [.c (.dat false (.int .i64)), .c (.int .i64), .c (.fn 148)]
def rs59q : RS := .c (.bool)
def pk59q : Bool → RL rs59q.cells := fun x => (x, ())
def up59q : RL rs59q.cells → Bool := fun d => d.1
def s59q (k : Nat) (d : AD as59q) := lim_isRow__lim_isNet k d.1 d.2.1
def R59q : Nat × Entry := (147, fun k nm args h => entry as59q rs59q (s59q k) pk59q nm args h)
theorem ev59q : EvOK E59q A59q 0 Proofs.Tryz.f147 as59q rs59q up59q s59q := by intro k d; kernel_rfl
theorem F59q : FnOK Proofs.Tryz.prog R59q := fn_0 B59q ev59q

/-! ### giro/lim.isSquare -/
noncomputable def E60q : Env := ⟨Proofs.Tryz.prog, fun _ => false, sumsOf [R59q]⟩
def I60_0q : Spec := ⟨[(1, .c (.int .i64)), (2, .c (.lit (.fn 148 []))), (13, .c (.dat false (.sl (.int .i64)))), (14, .c (.int .i64)), (15, .c (.int .i64))], [], []⟩
def X0_60_0q : Spec := ⟨[], [], []⟩
def X1_60_0q : Spec := ⟨[(6, .c (.bool))], [], []⟩
def O60_0q : List (Ex × Spec) := [(.exit 0, X0_60_0q), (.ret, X1_60_0q)]
def c60_0q (f : lim_isSquare__lim_isNet_L0T) (d : I60_0q.den) : Option (Unit ⊕ Bool) := f d.1.1.1 d.1.2.2.1.1 d.1.2.2.2.1.1 d.1.2.2.2.2.1.1
def T60_0q : OutD O60_0q → (Unit ⊕ Bool)
 | .inl d => .inl ()
 | .inr d => .inr d.1.1.1
def e60_0q : Elim (Unit ⊕ Bool) := fun base x _ K => match x with
 | .inl x => K (.exit 0) (stOf base X0_60_0q ((), ()))
 | .inr x => K .ret (stOf base X1_60_0q (((x, ()), ()), ()))
def L60_0q : LoopSum := ⟨I60_0q, O60_0q, (Unit ⊕ Bool), fun k d => c60_0q (lim_isSquare__lim_isNet_L0 k k) d, e60_0q⟩
def A60q : Notes := ⟨[], [(4, L60_0q)]⟩
theorem B60q : EnvB E60q := env_n mixed_orders ⟨F59q, trivial⟩
theorem st60_0q : StepOK E60q A60q 0 25 (loopAt (bodyOf Proofs.Tryz.f145) 0) I60_0q O60_0q T60_0q c60_0q lim_isSquare__lim_isNet_L0b := by intro k rec d; kernel_rfl
theorem lk60_0q : LoopOK E60q.P 1000 0 25 (loopAt (bodyOf Proofs.Tryz.f145) 0) L60_0q := loop_b B60q st60_0q lim_isSquare__lim_isNet_L0 e60_0q (by intro o R K; rcases o with o | o <;> rfl) loops0
def as60q : List AS := [.c (.dat false (.sl (.int .i64))), .c (.int .i64), .c (.fn 148)]
def rs60q : RS := .c (.bool)
def pk60q : Bool → RL rs60q.cells := fun x => (x, ())
def up60q : RL rs60q.cells → Bool := fun d => d.1
def s60q (k : Nat) (d : AD as60q) := lim_isSquare__lim_isNet k d.1 d.2.1
def R60q : Nat × Entry := (145, fun k nm args h => entry as60q rs60q (s60q k) pk60q nm args h)
theorem ev60q : EvOK E60q A60q 0 Proofs.Tryz.f145 as60q rs60q up60q s60q := by intro k d; kernel_rfl
theorem F60q : FnOK Proofs.Tryz.prog R60q := fn_b B60q ev60q (loops1 lk60_0q)

/-! ### giro/lim.isTurned -/
noncomputable def E61q : Env := ⟨Proofs.Tryz.prog, fun _ => false, sumsOf []⟩
def I61_0q : Spec := ⟨[(0, .c (.dat false (.sl (.int .i64)))), (3, .c (.int .i64)), (7, .c (.dat false (.sl (.int .i64)))), (8, .c (.int .i64)), (9, .c (.int .i64)), (14, .c (.dat false (.int .i64))), (15, .c (.int .i64)), (16, .c (.int .i64))], [], []⟩
def X0_61_0q : Spec := ⟨[(0, .c (.dat false (.sl (.int .i64)))), (7, .c (.dat false (.sl (.int .i64)))), (8, .c (.int .i64)), (9, .c (.int .i64))], [], []⟩
def X1_61_0q : Spec := ⟨[(2, .c (.bool))], [], []⟩
def O61_0q : List (Ex × Spec) := [(.exit 2, X0_61_0q), (.ret, X1_61_0q)]
def c61_0q (f : lim_isTurned_L1T) (d : I61_0q.den) : Option lim_isTurned_L1X := f d.1.1.1 d.1.2.1.1 d.1.2.2.1.1 d.1.2.2.2.1.1 d.1.2.2.2.2.1.1 d.1.2.2.2.2.2.1.1 d.1.2.2.2.2.2.2.1.1 d.1.2.2.2.2.2.2.2.1.1
def T61_0q : OutD O61_0q → lim_isTurned_L1X
 | .inl d => .inl (d.1.1.1, d.1.2.1.1, d.1.2.2.1.1, d.1.2.2.2.1.1)
 | .inr d => .inr d.1.1.1
def e61_0q : Elim lim_isTurned_L1X := fun base x _ K => match x with
 | .inl x => K (.exit 2) (stOf base X0_61_0q (((x.1, ()), (x.2.1, ()), (x.2.2.1, ()), (x.2.2.2, ()), ()), ()))
 | .inr x => K .ret (stOf base X1_61_0q (((x, ()), ()), ()))
def L61_0q : LoopSum := ⟨I61_0q, O61_0q, lim_isTurned_L1X, fun k d => c61_0q (lim_isTurned_L1 k k) d, e61_0q⟩
def I61_1q : Spec := ⟨[(0, .c (.dat false (.sl (.int .i64)))), (7, .c (.dat false (.sl (.int .i64)))), (8, .c (.int .i64)), (9, .c (.int .i64))], [], []⟩
def X0_61_1q : Spec := ⟨[], [], []⟩
def X1_61_1q : Spec := ⟨[(2, .c (.bool))], [], []⟩
def O61_1q : List (Ex × Spec) := [(.exit 0, X0_61_1q), (.ret, X1_61_1q)]
def c61_1q (f : lim_isTurned_L0T) (d : I61_1q.den) : Option (Unit ⊕ Bool) := f d.1.1.1 d.1.2.1.1 d.1.2.2.1.1 d.1.2.2.2.1.1
def T61_1q : OutD O61_1q → (Unit ⊕ Bool)
 | .inl d => .inl ()
 | .inr d => .inr d.1.1.1
def e61_1q : Elim (Unit ⊕ Bool) := fun base x _ K => match x with
 | .inl x => K (.exit 0) (stOf base X0_61_1q ((), ()))
 | .inr x => K .ret (stOf base X1_61_1q (((x, ()), ()), ()))
def L61_1q : LoopSum := ⟨I61_1q, O61_1q, (Unit ⊕ Bool), fun k d => c61_1q (lim_isTurned_L0 k k) d, e61_1q⟩
def A61q : Notes := ⟨[], [(5, L61_0q), (2, L61_1q)]⟩
theorem B61q : EnvB E61q := env_n mixed_orders trivial
theorem st61_0q : StepOK E61q A61q 0 33 (loopAt (loopAt (bodyOf Proofs.Tryz.f149) 0) 0) I61_0q O61_0q T61_0q c61_0q lim_isTurned_L1b := by intro k rec d; kernel_rfl
theorem lk61_0q : LoopOK E61q.P 1000 0 33 (loopAt (loopAt (bodyOf Proofs.Tryz.f149) 0) 0) L61_0q := loop_b B61q st61_0q lim_isTurned_L1 e61_0q (by intro o R K; rcases o with o | o <;> rfl) loops0
theorem st61_1q : StepOK E61q A61q 0 33 (loopAt (bodyOf Proofs.Tryz.f149) 0) I61_1q O61_1q T61_1q c61_1q lim_isTurned_L0b := by intro k rec d; kernel_rfl
theorem lk61_1q : LoopOK E61q.P 1000 0 33 (loopAt (bodyOf Proofs.Tryz.f149) 0) L61_1q := loop_b B61q st61_1q lim_isTurned_L0 e61_1q (by intro o R K; rcases o with o | o <;> rfl) (loops1 lk61_0q)
def as61q : List AS := [.c (.dat false (.sl (.int .i64)))]
def rs61q : RS := .c (.bool)
def pk61q : Bool → RL rs61q.cells := fun x => (x, ())
def up61q : RL rs61q.cells → Bool := fun d => d.1
def s61q (k : Nat) (d : AD as61q) := lim_isTurned k d.1
def R61q : Nat × Entry := (149, fun k nm args h => entry as61q rs61q (s61q k) pk61q nm args h)
theorem ev61q : EvOK E61q A61q 0 Proofs.Tryz.f149 as61q rs61q up61q s61q := by intro k d; kernel_rfl
theorem F61q : FnOK Proofs.Tryz.prog R61q := fn_b B61q ev61q (loops1 lk61_1q)

/-! ### giro/lim.Is -/
noncomputable def E62q : Env := ⟨Proofs.Tryz.prog, fun _ => false, sumsOf [R48q, R54q, R53q, R60q, R61q]⟩
def A62q : Notes := ⟨[], []⟩
theorem B62q : EnvB E62q := env_n mixed_orders ⟨F48q, F54q, F53q, F60q, F61q, trivial⟩
def as62q : List AS := [.agg [.dat false y6q, .dat false (.sl (.int .i64)), .dat false (.int .i64), .dat false (.sl (.int .i64))]]
def rs62q : RS := .c (.bool)
def pk62q : Bool → RL rs62q.cells := fun x => (x, ())
def up62q : RL rs62q.cells → Bool := fun d => d.1
def s62q (k : Nat) (d : AD as62q) := lim_Is k d.1 d.2.1 d.2.2.1 d.2.2.2.1
def R62q : Nat × Entry := (105, fun k nm args h => entry as62q rs62q (s62q k) pk62q nm args h)
theorem ev62q : EvOK E62q A62q 0 Proofs.Tryz.f105 as62q rs62q up62q s62q := by intro k d; kernel_rfl
theorem F62q : FnOK Proofs.Tryz.prog R62q := fn_0 B62q ev62q

/-! ### giro/post.Post -/
noncomputable def E63q : Env := ⟨Proofs.Tryz.prog, fun _ => false, sumsOf [R39q, R44q, R30q, R62q]⟩
def I63_0q : Spec := ⟨[(2, .c (.lit (.ptr 1001000 0))), (4, .c (.lit (.ptr 1001001 0))), (7, .c (.lit (.ptr 1001002 0))), (24, .c (.dat false y10q)), (25, .c (.int .i64)), (26, .c (.int .i64))], [.box true [.dat true y6q, .dat true (.sl (.int .i64)), .dat true (.int .i64), .dat true (.sl (.int .i64))], .box true [.lit .nsl, .lit .nsl, .lit .nsl, .lit .nsl], .box true [.lit (.osl 1001003 none), .lit (.osl 1001004 none), .lit (.osl 1001005 none), .lit (.osl 1001006 none)], .arr true y6q, .mat, .arr true (.int .i64), .mat], []⟩
def X0_63_0q : Spec := ⟨[(2, .c (.lit (.ptr 1001000 0))), (4, .c (.lit (.ptr 1001001 0))), (7, .c (.lit (.ptr 1001002 0)))], [.box true [.dat true y6q, .dat true (.sl (.int .i64)), .dat true (.int .i64), .dat true (.sl (.int .i64))], .box true [.lit .nsl, .lit .nsl, .lit .nsl, .lit .nsl], .box true [.lit (.osl 1001003 none), .lit (.osl 1001004 none), .lit (.osl 1001005 none), .lit (.osl 1001006 none)], .arr true y6q, .mat, .arr true (.int .i64), .mat], []⟩
def O63_0q : List (Ex × Spec) := [(.exit 0, X0_63_0q)]
def c63_0q (f : post_Post_L0T) (d : I63_0q.den) : Option post_Post_L0X := f d.1.2.2.2.1.1 d.1.2.2.2.2.1.1 d.1.2.2.2.2.2.1.1 d.2.1.1 d.2.1.2.1 d.2.1.2.2.1 d.2.1.2.2.2.1 d.2.2.2.2.1 d.2.2.2.2.2.1 d.2.2.2.2.2.2.1 d.2.2.2.2.2.2.2.1
def T63_0q : OutD O63_0q → post_Post_L0X := fun d => (d.2.1.1, d.2.1.2.1, d.2.1.2.2.1, d.2.1.2.2.2.1, d.2.2.2.2.1, d.2.2.2.2.2.1, d.2.2.2.2.2.2.1, d.2.2.2.2.2.2.2.1)
def e63_0q : Elim post_Post_L0X := fun base x _ K => K (.exit 0) (stOf base X0_63_0q (((), (), (), ()), ((x.1, x.2.1, x.2.2.1, x.2.2.2.1, ()), (), (), x.2.2.2.2.1, x.2.2.2.2.2.1, x.2.2.2.2.2.2.1, x.2.2.2.2.2.2.2, ())))
def L63_0q : LoopSum := ⟨I63_0q, O63_0q, post_Post_L0X, fun k d => c63_0q (post_Post_L0 k k) d, e63_0q⟩
def A63q : Notes := ⟨[], [(6, L63_0q)]⟩
theorem B63q : EnvB E63q := env_n mixed_orders ⟨F39q, F44q, F30q, F62q, trivial⟩
theorem st63_0q : StepOK E63q A63q 0 104 (loopAt (bodyOf Proofs.Tryz.f103) 0) I63_0q O63_0q T63_0q c63_0q post_Post_L0b := by intro k rec d; kernel_rfl
theorem lk63_0q : LoopOK E63q.P 1000 0 104 (loopAt (bodyOf Proofs.Tryz.f103) 0) L63_0q := loop_b B63q st63_0q post_Post_L0 e63_0q (fun _ _ _ => rfl) loops0
def as63q : List AS := [.agg [.dat true y6q, .dat true (.sl (.int .i64)), .dat true (.int .i64), .dat true (.sl (.int .i64))], .c (.dat false y10q)]
def rs63q : RS := .tup [(true, [.fro y6q, .fro (.sl (.int .i64)), .fro (.int .i64), .fro (.sl (.int .i64))]), (false, [.int .i64])]
def pk63q : (List K4q) × (List (List Int)) × (List Int) × (List (List Int)) × Int → RL rs63q.cells := fun x => (x.1, x.2.1, x.2.2.1, x.2.2.2.1, x.2.2.2.2, ())
def up63q : RL rs63q.cells → (List K4q) × (List (List Int)) × (List Int) × (List (List Int)) × Int := fun d => (d.1, d.2.1, d.2.2.1, d.2.2.2.1, d.2.2.2.2.1)
def s63q (k : Nat) (d : AD as63q) := post_Post k d.1 d.2.1 d.2.2.1 d.2.2.2.1 d.2.2.2.2.1
def R63q : Nat × Entry := (103, fun k nm args h => entry as63q rs63q (s63q k) pk63q nm args h)
theorem ev63q : EvOK E63q A63q 0 Proofs.Tryz.f103 as63q rs63q up63q s63q := by intro k d; kernel_rfl
theorem F63q : FnOK Proofs.Tryz.prog R63q := fn_b B63q ev63q (loops1 lk63_0q)

/-! ### giro/free.next -/
noncomputable def E64q : Env := ⟨Proofs.Tryz.prog, fun _ => false, sumsOf [R16q, R36q, R63q]⟩
def I64_0q : Spec := ⟨[(3, .c (.lit (.ptr 1001000 0))), (6, .c (.lit (.ptr 1001001 0))), (7, .c (.lit (.ptr 1001002 0))), (15, .c (.lit (.osl 1001003 none))), (16, .c (.int .i64)), (17, .c (.int .i64))], [.box true [.dat true y6q, .dat true (.sl (.int .i64)), .dat true (.int .i64), .dat true (.sl (.int .i64))], .box true [.int .i64, .int .i64, .int .i64, .int .i64, .int .i64, .int .i64, .int .i64], .box true [.lit .nsl, .lit .nsl, .lit .nsl, .lit .nsl], .arr true y10q], []⟩
def X0_64_0q : Spec := ⟨[(3, .c (.lit (.ptr 1001000 0))), (6, .c (.lit (.ptr 1001001 0))), (7, .c (.lit (.ptr 1001002 0)))], [.box true [.dat true y6q, .dat true (.sl (.int .i64)), .dat true (.int .i64), .dat true (.sl (.int .i64))], .box true [.int .i64, .int .i64, .int .i64, .int .i64, .int .i64, .int .i64, .int .i64], .box true [.lit .nsl, .lit .nsl, .lit .nsl, .lit .nsl]], []⟩
def X1_64_0q : Spec := ⟨[(6, .c (.lit (.ptr 1001000 0))), (7, .c (.lit (.ptr 1001001 0))), (8, .c (.bool))], [.box true [.int .i64, .int .i64, .int .i64, .int .i64, .int .i64, .int .i64, .int .i64], .box true [.dat true y6q, .dat true (.sl (.int .i64)), .dat true (.int .i64), .dat true (.sl (.int .i64))]], []⟩
def O64_0q : List (Ex × Spec) := [(.exit 0, X0_64_0q), (.ret, X1_64_0q)]
def c64_0q (f : free_next_L0T) (d : I64_0q.den) : Option free_next_L0X := f d.1.2.2.2.2.1.1 d.1.2.2.2.2.2.1.1 d.2.1.1 d.2.1.2.1 d.2.1.2.2.1 d.2.1.2.2.2.1 d.2.2.1.1 d.2.2.1.2.1 d.2.2.1.2.2.1 d.2.2.1.2.2.2.1 d.2.2.1.2.2.2.2.1 d.2.2.1.2.2.2.2.2.1 d.2.2.1.2.2.2.2.2.2.1 d.2.2.2.2.1
def T64_0q : OutD O64_0q → free_next_L0X
 | .inl d => .inl (d.2.1.1, d.2.1.2.1, d.2.1.2.2.1, d.2.1.2.2.2.1, d.2.2.1.1, d.2.2.1.2.1, d.2.2.1.2.2.1, d.2.2.1.2.2.2.1, d.2.2.1.2.2.2.2.1, d.2.2.1.2.2.2.2.2.1, d.2.2.1.2.2.2.2.2.2.1)
 | .inr d => .inr (d.1.2.2.1.1, d.2.1.1, d.2.1.2.1, d.2.1.2.2.1, d.2.1.2.2.2.1, d.2.1.2.2.2.2.1, d.2.1.2.2.2.2.2.1, d.2.1.2.2.2.2.2.2.1, d.2.2.1.1, d.2.2.1.2.1, d.2.2.1.2.2.1, d.2.2.1.2.2.2.1)
def e64_0q : Elim free_next_L0X := fun base x _ K => match x with
 | .inl x => K (.exit 0) (stOf base X0_64_0q (((), (), (), ()), ((x.1, x.2.1, x.2.2.1, x.2.2.2.1, ()), (x.2.2.2.2.1, x.2.2.2.2.2.1, x.2.2.2.2.2.2.1, x.2.2.2.2.2.2.2.1, x.2.2.2.2.2.2.2.2.1, x.2.2.2.2.2.2.2.2.2.1, x.2.2.2.2.2.2.2.2.2.2, ()), (), ())))
 | .inr x => K .ret (stOf base X1_64_0q (((), (), (x.1, ()), ()), ((x.2.1, x.2.2.1, x.2.2.2.1, x.2.2.2.2.1, x.2.2.2.2.2.1, x.2.2.2.2.2.2.1, x.2.2.2.2.2.2.2.1, ()), (x.2.2.2.2.2.2.2.2.1, x.2.2.2.2.2.2.2.2.2.1, x.2.2.2.2.2.2.2.2.2.2.1, x.2.2.2.2.2.2.2.2.2.2.2, ()), ())))
def L64_0q : LoopSum := ⟨I64_0q, O64_0q, free_next_L0X, fun k d => c64_0q (free_next_L0 k k) d, e64_0q⟩
def A64q : Notes := ⟨[], [(2, L64_0q)]⟩
theorem B64q : EnvB E64q := env_n mixed_orders ⟨F16q, F36q, F63q, trivial⟩
theorem st64_0q : StepOK E64q A64q 0 40 (loopAt (bodyOf Proofs.Tryz.f66) 0) I64_0q O64_0q T64_0q c64_0q free_next_L0b := by intro k rec d; kernel_rfl
theorem lk64_0q : LoopOK E64q.P 1000 0 40 (loopAt (bodyOf Proofs.Tryz.f66) 0) L64_0q := loop_b B64q st64_0q free_next_L0 e64_0q (by intro o R K; rcases o with o | o <;> rfl) loops0
def as64q : List AS := [.agg [.dat true y6q, .dat true (.sl (.int .i64)), .dat true (.int .i64), .dat true (.sl (.int .i64))], .c (.dat true y10q), .c (.int .i64)]
def rs64q : RS := .tup [(true, [.int .i64, .int .i64, .int .i64, .int .i64, .int .i64, .int .i64, .int .i64]), (true, [.fro y6q, .fro (.sl (.int .i64)), .fro (.int .i64), .fro (.sl (.int .i64))]), (false, [.bool])]
def pk64q : Int × Int × Int × Int × Int × Int × Int × (List K4q) × (List (List Int)) × (List Int) × (List (List Int)) × Bool → RL rs64q.cells := fun x => (x.1, x.2.1, x.2.2.1, x.2.2.2.1, x.2.2.2.2.1, x.2.2.2.2.2.1, x.2.2.2.2.2.2.1, x.2.2.2.2.2.2.2.1, x.2.2.2.2.2.2.2.2.1, x.2.2.2.2.2.2.2.2.2.1, x.2.2.2.2.2.2.2.2.2.2.1, x.2.2.2.2.2.2.2.2.2.2.2, ())
def up64q : RL rs64q.cells → Int × Int × Int × Int × Int × Int × Int × (List K4q) × (List (List Int)) × (List Int) × (List (List Int)) × Bool := fun d => (d.1, d.2.1, d.2.2.1, d.2.2.2.1, d.2.2.2.2.1, d.2.2.2.2.2.1, d.2.2.2.2.2.2.1, d.2.2.2.2.2.2.2.1, d.2.2.2.2.2.2.2.2.1, d.2.2.2.2.2.2.2.2.2.1, d.2.2.2.2.2.2.2.2.2.2.1, d.2.2.2.2.2.2.2.2.2.2.2.1)
def s64q (k : Nat) (d : AD as64q) := free_next k d.1 d.2.1 d.2.2.1 d.2.2.2.1 d.2.2.2.2.1 d.2.2.2.2.2.1
def R64q : Nat × Entry := (66, fun k nm args h => entry as64q rs64q (s64q k) pk64q nm args h)
theorem ev64q : EvOK E64q A64q 0 Proofs.Tryz.f66 as64q rs64q up64q s64q := by intro k d; kernel_rfl
theorem F64q : FnOK Proofs.Tryz.prog R64q := fn_b B64q ev64q (loops1 lk64_0q)

/-! ### giro/free.Next -/
noncomputable def E65q : Env := ⟨Proofs.Tryz.prog, fun _ => false, sumsOf [R64q]⟩
def A65q : Notes := ⟨[], []⟩
theorem B65q : EnvB E65q := env_n mixed_orders ⟨F64q, trivial⟩
def as65q : List AS := [.agg [.dat true y6q, .dat true (.sl (.int .i64)), .dat true (.int .i64), .dat true (.sl (.int .i64))], .c (.dat true y10q), .c (.int .i64)]
def rs65q : RS := .tup [(true, [.int .i64, .int .i64, .int .i64, .int .i64, .int .i64, .int .i64, .int .i64]), (false, [.bool])]
def pk65q : Int × Int × Int × Int × Int × Int × Int × Bool → RL rs65q.cells := fun x => (x.1, x.2.1, x.2.2.1, x.2.2.2.1, x.2.2.2.2.1, x.2.2.2.2.2.1, x.2.2.2.2.2.2.1, x.2.2.2.2.2.2.2, ())
def up65q : RL rs65q.cells → Int × Int × Int × Int × Int × Int × Int × Bool := fun d => (d.1, d.2.1, d.2.2.1, d.2.2.2.1, d.2.2.2.2.1, d.2.2.2.2.2.1, d.2.2.2.2.2.2.1, d.2.2.2.2.2.2.2.1)
def s65q (k : Nat) (d : AD as65q) := free_Next k d.1 d.2.1 d.2.2.1 d.2.2.2.1 d.2.2.2.2.1 d.2.2.2.2.2.1
def R65q : Nat × Entry := (31, fun k nm args h => entry as65q rs65q (s65q k) pk65q nm args h)
theorem ev65q : EvOK E65q A65q 0 Proofs.Tryz.f31 as65q rs65q up65q s65q := by intro k d; kernel_rfl
theorem F65q : FnOK Proofs.Tryz.prog R65q := fn_0 B65q ev65q

/-! ### giro/audit.Stuck -/
noncomputable def E66q : Env := ⟨Proofs.Tryz.prog, fun _ => false, sumsOf [R65q]⟩
def A66q : Notes := ⟨[], []⟩
theorem B66q : EnvB E66q := env_n mixed_orders ⟨F65q, trivial⟩
def as66q : List AS := [.agg [.int .i64, .dat true y6q, .dat true (.sl (.int .i64)), .dat true (.int .i64), .dat true (.sl (.int .i64)), .dat false (.int .i64), .dat false (.sl (.int .i64)), .dat true y10q, .dat false (.int .i64), .int .i64, .bool]]
def rs66q : RS := .c (.bool)
def pk66q : Bool → RL rs66q.cells := fun x => (x, ())
def up66q : RL rs66q.cells → Bool := fun d => d.1
def s66q (k : Nat) (d : AD as66q) := audit_Stuck k d.1 d.2.1 d.2.2.1 d.2.2.2.1 d.2.2.2.2.1 d.2.2.2.2.2.1 d.2.2.2.2.2.2.1 d.2.2.2.2.2.2.2.1 d.2.2.2.2.2.2.2.2.1 d.2.2.2.2.2.2.2.2.2.1 d.2.2.2.2.2.2.2.2.2.2.1
def R66q : Nat × Entry := (13, fun k nm args h => entry as66q rs66q (s66q k) pk66q nm args h)
theorem ev66q : EvOK E66q A66q 0 Proofs.Tryz.f13 as66q rs66q up66q s66q := by intro k d; kernel_rfl
theorem F66q : FnOK Proofs.Tryz.prog R66q := fn_0 B66q ev66q

/-! ### giro/giroref15.May -/
noncomputable def E71q : Env := ⟨Proofs.Tryz.prog, fun _ => false, sumsOf []⟩
def A71q : Notes := ⟨[], []⟩
theorem B71q : EnvB E71q := env_n mixed_orders trivial
def as71q : List AS := [.agg [.dat false y6q, .dat false (.sl (.int .i64)), .dat false (.int .i64), .dat false (.sl (.int .i64))], .agg [.int .i64, .int .i64, .int .i64, .int .i64, .int .i64, .int .i64, .int .i64]]
def rs71q : RS := .c (.bool)
def pk71q : Bool → RL rs71q.cells := fun x => (x, ())
def up71q : RL rs71q.cells → Bool := fun d => d.1
def s71q (k : Nat) (d : AD as71q) := giroref15_May k d.1 d.2.1 d.2.2.1 d.2.2.2.1 d.2.2.2.2.1 d.2.2.2.2.2.1 d.2.2.2.2.2.2.1 d.2.2.2.2.2.2.2.1 d.2.2.2.2.2.2.2.2.1 d.2.2.2.2.2.2.2.2.2.1 d.2.2.2.2.2.2.2.2.2.2.1
def R71q : Nat × Entry := (68, fun k nm args h => entry as71q rs71q (s71q k) pk71q nm args h)
theorem ev71q : EvOK E71q A71q 0 Proofs.Tryz.f68 as71q rs71q up71q s71q := by intro k d; kernel_rfl
theorem F71q : FnOK Proofs.Tryz.prog R71q := fn_0 B71q ev71q

/-! ### giro/giroref15.All -/
noncomputable def E72q : Env := ⟨Proofs.Tryz.prog, fun _ => false, sumsOf [R71q]⟩
def I72_0q : Spec := ⟨[(1, .c (.dat false y10q)), (2, .c (.lit (.ptr 1001000 0))), (5, .c (.int .i64))], [.box true [.dat false y6q, .dat false (.sl (.int .i64)), .dat false (.int .i64), .dat false (.sl (.int .i64))]], []⟩
def X0_72_0q : Spec := ⟨[(1, .c (.dat false y10q))], [], []⟩
def X1_72_0q : Spec := ⟨[(4, .c (.bool))], [], []⟩
def O72_0q : List (Ex × Spec) := [(.exit 0, X0_72_0q), (.ret, X1_72_0q)]
def c72_0q (f : giroref15_All_L0T) (d : I72_0q.den) : Option giroref15_All_L0X := f d.1.1.1 d.1.2.2.1.1 d.2.1.1 d.2.1.2.1 d.2.1.2.2.1 d.2.1.2.2.2.1
def T72_0q : OutD O72_0q → giroref15_All_L0X
 | .inl d => .inl d.1.1.1
 | .inr d => .inr d.1.1.1
def e72_0q : Elim giroref15_All_L0X := fun base x _ K => match x with
 | .inl x => K (.exit 0) (stOf base X0_72_0q (((x, ()), ()), ()))
 | .inr x => K .ret (stOf base X1_72_0q (((x, ()), ()), ()))
def L72_0q : LoopSum := ⟨I72_0q, O72_0q, giroref15_All_L0X, fun k d => c72_0q (giroref15_All_L0 k k) d, e72_0q⟩
def A72q : Notes := ⟨[], [(2, L72_0q)]⟩
theorem B72q : EnvB E72q := env_n mixed_orders ⟨F71q, trivial⟩
theorem st72_0q : StepOK E72q A72q 0 22 (loopAt (bodyOf Proofs.Tryz.f35) 0) I72_0q O72_0q T72_0q c72_0q giroref15_All_L0b := by intro k rec d; kernel_rfl
theorem lk72_0q : LoopOK E72q.P 1000 0 22 (loopAt (bodyOf Proofs.Tryz.f35) 0) L72_0q := loop_b B72q st72_0q giroref15_All_L0 e72_0q (by intro o R K; rcases o with o | o <;> rfl) loops0
def as72q : List AS := [.agg [.dat false y6q, .dat false (.sl (.int .i64)), .dat false (.int .i64), .dat false (.sl (.int .i64))], .c (.dat false y10q)]
def rs72q : RS := .c (.bool)
def pk72q : Bool → RL rs72q.cells := fun x => (x, ())
def up72q : RL rs72q.cells → Bool := fun d => d.1
def s72q (k : Nat) (d : AD as72q) := giroref15_All k d.1 d.2.1 d.2.2.1 d.2.2.2.1 d.2.2.2.2.1
def R72q : Nat × Entry := (35, fun k nm args h => entry as72q rs72q (s72q k) pk72q nm args h)
theorem ev72q : EvOK E72q A72q 0 Proofs.Tryz.f35 as72q rs72q up72q s72q := by intro k d; kernel_rfl
theorem F72q : FnOK Proofs.Tryz.prog R72q := fn_b B72q ev72q (loops1 lk72_0q)

/-! ### giro/giroref10.rows -/
noncomputable def E73q : Env := ⟨Proofs.Tryz.prog, fun _ => false, sumsOf []⟩
def I73_0q : Spec := ⟨[(0, .c (.dat false (.sl (.int .i64)))), (3, .c (.lit (.osl 1001000 none))), (4, .c (.int .i64))], [.mat], [(3, none, (.sl (.int .i64)), true)]⟩
def X0_73_0q : Spec := ⟨[(3, .c (.lit (.osl 1001000 none)))], [.mat], []⟩
def O73_0q : List (Ex × Spec) := [(.exit 0, X0_73_0q)]
def c73_0q (f : giroref10_rows_L0T) (d : I73_0q.den) : Option (List (List Int)) := f d.1.1.1 d.1.2.2.1.1 d.2.1
def T73_0q : OutD O73_0q → (List (List Int)) := fun d => d.2.1
def e73_0q : Elim (List (List Int)) := fun base x _ K => K (.exit 0) (stOf base X0_73_0q (((), ()), (x, ())))
def L73_0q : LoopSum := ⟨I73_0q, O73_0q, (List (List Int)), fun k d => c73_0q (giroref10_rows_L0 k k) d, e73_0q⟩
def A73q : Notes := ⟨[18, 19], [(3, L73_0q)]⟩
theorem B73q : EnvB E73q := env_n mixed_orders trivial
theorem st73_0q : StepOK E73q A73q 0 21 (loopAt (bodyOf Proofs.Tryz.f40) 0) I73_0q O73_0q T73_0q c73_0q giroref10_rows_L0b := by intro k rec d; kernel_rfl
theorem lk73_0q : LoopOK E73q.P 1000 0 21 (loopAt (bodyOf Proofs.Tryz.f40) 0) L73_0q := loop_b B73q st73_0q giroref10_rows_L0 e73_0q (fun _ _ _ => rfl) loops0
def as73q : List AS := [.c (.dat false (.sl (.int .i64)))]
def rs73q : RS := .c (.mat)
def pk73q : List (List Int) → RL rs73q.cells := fun x => (x, ())
def up73q : RL rs73q.cells → List (List Int) := fun d => d.1
def s73q (k : Nat) (d : AD as73q) := giroref10_rows k d.1
def R73q : Nat × Entry := (40, fun k nm args h => entry as73q rs73q (s73q k) pk73q nm args h)
theorem ev73q : EvOK E73q A73q 0 Proofs.Tryz.f40 as73q rs73q up73q s73q := by intro k d; kernel_rfl
theorem F73q : FnOK Proofs.Tryz.prog R73q := fn_b B73q ev73q (loops1 lk73_0q)

/-! ### giro/giroref10.Copy -/
noncomputable def E74q : Env := ⟨Proofs.Tryz.prog, fun _ => false, sumsOf [R73q]⟩
def A74q : Notes := ⟨[], []⟩
theorem B74q : EnvB E74q := env_n mixed_orders ⟨F73q, trivial⟩
def as74q : List AS := [.agg [.dat false y6q, .dat false (.sl (.int .i64)), .dat false (.int .i64), .dat false (.sl (.int .i64))]]
def rs74q : RS := .agg [.own y6q, .mat, .own (.int .i64), .mat]
def pk74q : (List K4q) × (List (List Int)) × (List Int) × (List (List Int)) → RL rs74q.cells := fun x => (x.1, x.2.1, x.2.2.1, x.2.2.2, ())
def up74q : RL rs74q.cells → (List K4q) × (List (List Int)) × (List Int) × (List (List Int)) := fun d => (d.1, d.2.1, d.2.2.1, d.2.2.2.1)
def s74q (k : Nat) (d : AD as74q) := giroref10_Copy k d.1 d.2.1 d.2.2.1 d.2.2.2.1
def R74q : Nat × Entry := (17, fun k nm args h => entry as74q rs74q (s74q k) pk74q nm args h)
theorem ev74q : EvOK E74q A74q 0 Proofs.Tryz.f17 as74q rs74q up74q s74q := by intro k d; kernel_rfl
theorem F74q : FnOK Proofs.Tryz.prog R74q := fn_0 B74q ev74q

/-! ### giro/giroref15.classed -/
noncomputable def E75q : Env := ⟨Proofs.Tryz.prog, fun _ => false, sumsOf []⟩
def I75_0q : Spec := ⟨[(0, .c (.dat false y10q)), (1, .c (.int .i64)), (6, .c (.int .i64)), (7, .c (.int .i64)), (8, .c (.int .i64))], [], []⟩
def X0_75_0q : Spec := ⟨[(6, .c (.int .i64)), (7, .c (.int .i64))], [], []⟩
def O75_0q : List (Ex × Spec) := [(.exit 0, X0_75_0q)]
def c75_0q (f : giroref15_classed_L0T) (d : I75_0q.den) : Option K5q := f d.1.1.1 d.1.2.1.1 d.1.2.2.1.1 d.1.2.2.2.1.1 d.1.2.2.2.2.1.1
def T75_0q : OutD O75_0q → K5q := fun d => (d.1.1.1, d.1.2.1.1)
def e75_0q : Elim K5q := fun base x _ K => K (.exit 0) (stOf base X0_75_0q (((x.1, ()), (x.2, ()), ()), ()))
def L75_0q : LoopSum := ⟨I75_0q, O75_0q, K5q, fun k d => c75_0q (giroref15_classed_L0 k k) d, e75_0q⟩
def A75q : Notes := ⟨[], [(3, L75_0q)]⟩
theorem B75q : EnvB E75q := env_n mixed_orders trivial
theorem st75_0q : StepOK E75q A75q 0 46 (loopAt (bodyOf Proofs.Tryz.f69) 0) I75_0q O75_0q T75_0q c75_0q giroref15_classed_L0b := by intro k rec d; kernel_rfl
theorem lk75_0q : LoopOK E75q.P 1000 0 46 (loopAt (bodyOf Proofs.Tryz.f69) 0) L75_0q := loop_b B75q st75_0q giroref15_classed_L0 e75_0q (fun _ _ _ => rfl) loops0
def as75q : List AS := [.c (.dat false y10q), .c (.int .i64)]
def rs75q : RS := .tup [(false, [.int .i64]), (false, [.int .i64])]
def pk75q : Int × Int → RL rs75q.cells := fun x => (x.1, x.2, ())
def up75q : RL rs75q.cells → Int × Int := fun d => (d.1, d.2.1)
def s75q (k : Nat) (d : AD as75q) := giroref15_classed k d.1 d.2.1
def R75q : Nat × Entry := (69, fun k nm args h => entry as75q rs75q (s75q k) pk75q nm args h)
theorem ev75q : EvOK E75q A75q 0 Proofs.Tryz.f69 as75q rs75q up75q s75q := by intro k d; kernel_rfl
theorem F75q : FnOK Proofs.Tryz.prog R75q := fn_b B75q ev75q (loops1 lk75_0q)

/-! ### giro/giroref15.Spent -/
noncomputable def E76q : Env := ⟨Proofs.Tryz.prog, fun _ => false, sumsOf [R75q]⟩
def A76q : Notes := ⟨[], []⟩
theorem B76q : EnvB E76q := env_n mixed_orders ⟨F75q, trivial⟩
def as76q : List AS := [.c (.dat false y10q), .c (.int .i64)]
def rs76q : RS := .c (.int .i64)
def pk76q : Int → RL rs76q.cells := fun x => (x, ())
def up76q : RL rs76q.cells → Int := fun d => d.1
def s76q (k : Nat) (d : AD as76q) := giroref15_Spent k d.1 d.2.1
def R76q : Nat × Entry := (37, fun k nm args h => entry as76q rs76q (s76q k) pk76q nm args h)
theorem ev76q : EvOK E76q A76q 0 Proofs.Tryz.f37 as76q rs76q up76q s76q := by intro k d; kernel_rfl
theorem F76q : FnOK Proofs.Tryz.prog R76q := fn_0 B76q ev76q

/-! ### giro/giroref9.Kept -/
noncomputable def E77q : Env := ⟨Proofs.Tryz.prog, fun _ => false, sumsOf []⟩
def A77q : Notes := ⟨[], []⟩
theorem B77q : EnvB E77q := env_n mixed_orders trivial
def as77q : List AS := [.agg [.int .i64, .int .i64, .int .i64], .c (.int .i64)]
def rs77q : RS := .c (.int .i64)
def pk77q : Int → RL rs77q.cells := fun x => (x, ())
def up77q : RL rs77q.cells → Int := fun d => d.1
def s77q (k : Nat) (d : AD as77q) := giroref9_Kept k d.1 d.2.1 d.2.2.1 d.2.2.2.1
def R77q : Nat × Entry := (36, fun k nm args h => entry as77q rs77q (s77q k) pk77q nm args h)
theorem ev77q : EvOK E77q A77q 0 Proofs.Tryz.f36 as77q rs77q up77q s77q := by intro k d; kernel_rfl
theorem F77q : FnOK Proofs.Tryz.prog R77q := fn_0 B77q ev77q

/-! ### giro/giroref15.sent -/
noncomputable def E78q : Env := ⟨Proofs.Tryz.prog, fun _ => false, sumsOf []⟩
def I78_0q : Spec := ⟨[(0, .c (.dat false y10q)), (1, .c (.int .i64)), (2, .c (.int .i64)), (7, .c (.int .i64)), (8, .c (.int .i64))], [], []⟩
def X0_78_0q : Spec := ⟨[(7, .c (.int .i64))], [], []⟩
def O78_0q : List (Ex × Spec) := [(.exit 0, X0_78_0q)]
def c78_0q (f : giroref15_sent_L0T) (d : I78_0q.den) : Option Int := f d.1.1.1 d.1.2.1.1 d.1.2.2.1.1 d.1.2.2.2.1.1 d.1.2.2.2.2.1.1
def T78_0q : OutD O78_0q → Int := fun d => d.1.1.1
def e78_0q : Elim Int := fun base x _ K => K (.exit 0) (stOf base X0_78_0q (((x, ()), ()), ()))
def L78_0q : LoopSum := ⟨I78_0q, O78_0q, Int, fun k d => c78_0q (giroref15_sent_L0 k k) d, e78_0q⟩
def A78q : Notes := ⟨[], [(3, L78_0q)]⟩
theorem B78q : EnvB E78q := env_n mixed_orders trivial
theorem st78_0q : StepOK E78q A78q 0 39 (loopAt (bodyOf Proofs.Tryz.f70) 0) I78_0q O78_0q T78_0q c78_0q giroref15_sent_L0b := by intro k rec d; kernel_rfl
theorem lk78_0q : LoopOK E78q.P 1000 0 39 (loopAt (bodyOf Proofs.Tryz.f70) 0) L78_0q := loop_b B78q st78_0q giroref15_sent_L0 e78_0q (fun _ _ _ => rfl) loops0
def as78q : List AS := [.c (.dat false y10q), .c (.int .i64), .c (.int .i64)]
def rs78q : RS := .c (.int .i64)
def pk78q : Int → RL rs78q.cells := fun x => (x, ())
def up78q : RL rs78q.cells → Int := fun d => d.1
def s78q (k : Nat) (d : AD as78q) := giroref15_sent k d.1 d.2.1 d.2.2.1
def R78q : Nat × Entry := (70, fun k nm args h => entry as78q rs78q (s78q k) pk78q nm args h)
theorem ev78q : EvOK E78q A78q 0 Proofs.Tryz.f70 as78q rs78q up78q s78q := by intro k d; kernel_rfl
theorem F78q : FnOK Proofs.Tryz.prog R78q := fn_b B78q ev78q (loops1 lk78_0q)

/-! ### giro/giroref15.Sent -/
noncomputable def E79q : Env := ⟨Proofs.Tryz.prog, fun _ => false, sumsOf [R78q]⟩
def A79q : Notes := ⟨[], []⟩
theorem B79q : EnvB E79q := env_n mixed_orders ⟨F78q, trivial⟩
def as79q : List AS := [.c (.dat false y10q), .c (.int .i64), .c (.int .i64)]
def rs79q : RS := .c (.int .i64)
def pk79q : Int → RL rs79q.cells := fun x => (x, ())
def up79q : RL rs79q.cells → Int := fun d => d.1
def s79q (k : Nat) (d : AD as79q) := giroref15_Sent k d.1 d.2.1 d.2.2.1
def R79q : Nat × Entry := (38, fun k nm args h => entry as79q rs79q (s79q k) pk79q nm args h)
theorem ev79q : EvOK E79q A79q 0 Proofs.Tryz.f38 as79q rs79q up79q s79q := by intro k d; kernel_rfl
theorem F79q : FnOK Proofs.Tryz.prog R79q := fn_0 B79q ev79q

/-! ### giro/giroref10.square -/
noncomputable def E80q : Env := ⟨Proofs.Tryz.prog, fun _ => false, sumsOf []⟩
def I80_0q : Spec := ⟨[(0, .c (.dat false (.sl (.int .i64)))), (1, .c (.int .i64)), (5, .c (.int .i64))], [], []⟩
def X0_80_0q : Spec := ⟨[], [], []⟩
def X1_80_0q : Spec := ⟨[(4, .c (.bool))], [], []⟩
def O80_0q : List (Ex × Spec) := [(.exit 0, X0_80_0q), (.ret, X1_80_0q)]
def c80_0q (f : giroref10_square_L0T) (d : I80_0q.den) : Option (Unit ⊕ Bool) := f d.1.1.1 d.1.2.1.1 d.1.2.2.1.1
def T80_0q : OutD O80_0q → (Unit ⊕ Bool)
 | .inl d => .inl ()
 | .inr d => .inr d.1.1.1
def e80_0q : Elim (Unit ⊕ Bool) := fun base x _ K => match x with
 | .inl x => K (.exit 0) (stOf base X0_80_0q ((), ()))
 | .inr x => K .ret (stOf base X1_80_0q (((x, ()), ()), ()))
def L80_0q : LoopSum := ⟨I80_0q, O80_0q, (Unit ⊕ Bool), fun k d => c80_0q (giroref10_square_L0 k k) d, e80_0q⟩
def A80q : Notes := ⟨[], [(4, L80_0q)]⟩
theorem B80q : EnvB E80q := env_n mixed_orders trivial
theorem st80_0q : StepOK E80q A80q 0 22 (loopAt (bodyOf Proofs.Tryz.f71) 0) I80_0q O80_0q T80_0q c80_0q giroref10_square_L0b := by intro k rec d; kernel_rfl
theorem lk80_0q : LoopOK E80q.P 1000 0 22 (loopAt (bodyOf Proofs.Tryz.f71) 0) L80_0q := loop_b B80q st80_0q giroref10_square_L0 e80_0q (by intro o R K; rcases o with o | o <;> rfl) loops0
def as80q : List AS := [.c (.dat false (.sl (.int .i64))), .c (.int .i64)]
def rs80q : RS := .c (.bool)
def pk80q : Bool → RL rs80q.cells := fun x => (x, ())
def up80q : RL rs80q.cells → Bool := fun d => d.1
def s80q (k : Nat) (d : AD as80q) := giroref10_square k d.1 d.2.1
def R80q : Nat × Entry := (71, fun k nm args h => entry as80q rs80q (s80q k) pk80q nm args h)
theorem ev80q : EvOK E80q A80q 0 Proofs.Tryz.f71 as80q rs80q up80q s80q := by intro k d; kernel_rfl
theorem F80q : FnOK Proofs.Tryz.prog R80q := fn_b B80q ev80q (loops1 lk80_0q)

/-! ### giro/giroref9.Is -/
noncomputable def E81q : Env := ⟨Proofs.Tryz.prog, fun _ => false, sumsOf []⟩
def A81q : Notes := ⟨[], []⟩
theorem B81q : EnvB E81q := env_n mixed_orders trivial
def as81q : List AS := [.agg [.int .i64, .int .i64, .int .i64]]
def rs81q : RS := .c (.bool)
def pk81q : Bool → RL rs81q.cells := fun x => (x, ())
def up81q : RL rs81q.cells → Bool := fun d => d.1
def s81q (k : Nat) (d : AD as81q) := giroref9_Is k d.1 d.2.1 d.2.2.1
def R81q : Nat × Entry := (72, fun k nm args h => entry as81q rs81q (s81q k) pk81q nm args h)
theorem ev81q : EvOK E81q A81q 0 Proofs.Tryz.f72 as81q rs81q up81q s81q := by intro k d; kernel_rfl
theorem F81q : FnOK Proofs.Tryz.prog R81q := fn_0 B81q ev81q

/-! ### giro/giroref10.limit -/
noncomputable def E82q : Env := ⟨Proofs.Tryz.prog, fun _ => false, sumsOf []⟩
def A82q : Notes := ⟨[], []⟩
theorem B82q : EnvB E82q := env_n mixed_orders trivial
def as82q : List AS := [.c (.int .i64)]
def rs82q : RS := .c (.bool)
def pk82q : Bool → RL rs82q.cells := fun x => (x, ())
def up82q : RL rs82q.cells → Bool := fun d => d.1
def s82q (k : Nat) (d : AD as82q) := giroref10_limit k d.1
def R82q : Nat × Entry := (73, fun k nm args h => entry as82q rs82q (s82q k) pk82q nm args h)
theorem ev82q : EvOK E82q A82q 0 Proofs.Tryz.f73 as82q rs82q up82q s82q := by intro k d; kernel_rfl
theorem F82q : FnOK Proofs.Tryz.prog R82q := fn_0 B82q ev82q

/-! ### giro/giroref10.Is -/
noncomputable def E83q : Env := ⟨Proofs.Tryz.prog, fun _ => false, sumsOf [R80q, R81q, R82q]⟩
def I83_0q : Spec := ⟨[(1, .c (.lit (.ptr 1001000 0))), (3, .c (.int .i64)), (4, .c (.int .i64)), (5, .c (.int .i64))], [.box true [.dat false y6q, .dat false (.sl (.int .i64)), .dat false (.int .i64), .dat false (.sl (.int .i64))]], []⟩
def X0_83_0q : Spec := ⟨[(1, .c (.lit (.ptr 1001000 0))), (3, .c (.int .i64)), (4, .c (.int .i64))], [.box true [.dat false y6q, .dat false (.sl (.int .i64)), .dat false (.int .i64), .dat false (.sl (.int .i64))]], []⟩
def X1_83_0q : Spec := ⟨[(2, .c (.bool))], [], []⟩
def O83_0q : List (Ex × Spec) := [(.exit 2, X0_83_0q), (.ret, X1_83_0q)]
def c83_0q (f : giroref10_Is_L1T) (d : I83_0q.den) : Option giroref10_Is_L1X := f d.1.2.1.1 d.1.2.2.1.1 d.1.2.2.2.1.1 d.2.1.1 d.2.1.2.1 d.2.1.2.2.1 d.2.1.2.2.2.1
def T83_0q : OutD O83_0q → giroref10_Is_L1X
 | .inl d => .inl (d.1.2.1.1, d.1.2.2.1.1, d.2.1.1, d.2.1.2.1, d.2.1.2.2.1, d.2.1.2.2.2.1)
 | .inr d => .inr d.1.1.1
def e83_0q : Elim giroref10_Is_L1X := fun base x _ K => match x with
 | .inl x => K (.exit 2) (stOf base X0_83_0q (((), (x.1, ()), (x.2.1, ()), ()), ((x.2.2.1, x.2.2.2.1, x.2.2.2.2.1, x.2.2.2.2.2, ()), ())))
 | .inr x => K .ret (stOf base X1_83_0q (((x, ()), ()), ()))
def L83_0q : LoopSum := ⟨I83_0q, O83_0q, giroref10_Is_L1X, fun k d => c83_0q (giroref10_Is_L1 k k) d, e83_0q⟩
def I83_1q : Spec := ⟨[(1, .c (.lit (.ptr 1001000 0))), (3, .c (.int .i64)), (4, .c (.int .i64))], [.box true [.dat false y6q, .dat false (.sl (.int .i64)), .dat false (.int .i64), .dat false (.sl (.int .i64))]], []⟩
def X0_83_1q : Spec := ⟨[], [], []⟩
def X1_83_1q : Spec := ⟨[(2, .c (.bool))], [], []⟩
def O83_1q : List (Ex × Spec) := [(.exit 0, X0_83_1q), (.ret, X1_83_1q)]
def c83_1q (f : giroref10_Is_L0T) (d : I83_1q.den) : Option (Unit ⊕ Bool) := f d.1.2.1.1 d.1.2.2.1.1 d.2.1.1 d.2.1.2.1 d.2.1.2.2.1 d.2.1.2.2.2.1
def T83_1q : OutD O83_1q → (Unit ⊕ Bool)
 | .inl d => .inl ()
 | .inr d => .inr d.1.1.1
def e83_1q : Elim (Unit ⊕ Bool) := fun base x _ K => match x with
 | .inl x => K (.exit 0) (stOf base X0_83_1q ((), ()))
 | .inr x => K .ret (stOf base X1_83_1q (((x, ()), ()), ()))
def L83_1q : LoopSum := ⟨I83_1q, O83_1q, (Unit ⊕ Bool), fun k d => c83_1q (giroref10_Is_L0 k k) d, e83_1q⟩
def A83q : Notes := ⟨[], [(10, L83_0q), (5, L83_1q)]⟩
theorem B83q : EnvB E83q := env_n mixed_orders ⟨F80q, F81q, F82q, trivial⟩
theorem st83_0q : StepOK E83q A83q 0 114 (loopAt (loopAt (bodyOf Proofs.Tryz.f39) 0) 0) I83_0q O83_0q T83_0q c83_0q giroref10_Is_L1b := by intro k rec d; kernel_rfl
theorem lk83_0q : LoopOK E83q.P 1000 0 114 (loopAt (loopAt (bodyOf Proofs.Tryz.f39) 0) 0) L83_0q := loop_b B83q st83_0q giroref10_Is_L1 e83_0q (by intro o R K; rcases o with o | o <;> rfl) loops0
theorem st83_1q : StepOK E83q A83q 0 114 (loopAt (bodyOf Proofs.Tryz.f39) 0) I83_1q O83_1q T83_1q c83_1q giroref10_Is_L0b := by intro k rec d; kernel_rfl
theorem lk83_1q : LoopOK E83q.P 1000 0 114 (loopAt (bodyOf Proofs.Tryz.f39) 0) L83_1q := loop_b B83q st83_1q giroref10_Is_L0 e83_1q (by intro o R K; rcases o with o | o <;> rfl) (loops1 lk83_0q)
def as83q : List AS := [.agg [.dat false y6q, .dat false (.sl (.int .i64)), .dat false (.int .i64), .dat false (.sl (.int .i64))]]
def rs83q : RS := .c (.bool)
def pk83q : Bool → RL rs83q.cells := fun x => (x, ())
def up83q : RL rs83q.cells → Bool := fun d => d.1
def s83q (k : Nat) (d : AD as83q) := giroref10_Is k d.1 d.2.1 d.2.2.1 d.2.2.2.1
def R83q : Nat × Entry := (39, fun k nm args h => entry as83q rs83q (s83q k) pk83q nm args h)
theorem ev83q : EvOK E83q A83q 0 Proofs.Tryz.f39 as83q rs83q up83q s83q := by intro k d; kernel_rfl
theorem F83q : FnOK Proofs.Tryz.prog R83q := fn_b B83q ev83q (loops1 lk83_1q)

/-! ### giro/giroref16.Post -/
noncomputable def E84q : Env := ⟨Proofs.Tryz.prog, fun _ => false, sumsOf [R72q, R74q, R76q, R77q, R79q, R83q]⟩
def I84_0q : Spec := ⟨[(1, .c (.dat false y10q)), (2, .c (.lit (.ptr 1001000 0))), (4, .c (.lit (.ptr 1001001 0))), (6, .c (.lit (.ptr 1001002 0))), (7, .c (.int .i64)), (8, .c (.int .i64))], [.box true [.dat true y6q, .dat true (.sl (.int .i64)), .dat true (.int .i64), .dat true (.sl (.int .i64))], .box true [.lit .nsl, .lit .nsl, .lit .nsl, .lit .nsl], .box true [.lit (.osl 1001003 none), .lit (.osl 1001004 none), .lit (.osl 1001005 none), .lit (.osl 1001006 none)], .arr true y6q, .mat, .arr true (.int .i64), .mat], []⟩
def X0_84_0q : Spec := ⟨[(1, .c (.dat false y10q)), (2, .c (.lit (.ptr 1001000 0))), (4, .c (.lit (.ptr 1001001 0))), (6, .c (.lit (.ptr 1001002 0))), (7, .c (.int .i64))], [.box true [.dat true y6q, .dat true (.sl (.int .i64)), .dat true (.int .i64), .dat true (.sl (.int .i64))], .box true [.lit .nsl, .lit .nsl, .lit .nsl, .lit .nsl], .box true [.lit (.osl 1001003 none), .lit (.osl 1001004 none), .lit (.osl 1001005 none), .lit (.osl 1001006 none)], .arr true y6q, .mat, .arr true (.int .i64), .mat], []⟩
def O84_0q : List (Ex × Spec) := [(.exit 2, X0_84_0q)]
def c84_0q (f : giroref16_Post_L1T) (d : I84_0q.den) : Option giroref16_Post_L1X := f d.1.1.1 d.1.2.2.2.2.1.1 d.1.2.2.2.2.2.1.1 d.2.1.1 d.2.1.2.1 d.2.1.2.2.1 d.2.1.2.2.2.1 d.2.2.2.2.1 d.2.2.2.2.2.1 d.2.2.2.2.2.2.1 d.2.2.2.2.2.2.2.1
def T84_0q : OutD O84_0q → giroref16_Post_L1X := fun d => (d.1.1.1, d.1.2.2.2.2.1.1, d.2.1.1, d.2.1.2.1, d.2.1.2.2.1, d.2.1.2.2.2.1, d.2.2.2.2.1, d.2.2.2.2.2.1, d.2.2.2.2.2.2.1, d.2.2.2.2.2.2.2.1)
def e84_0q : Elim giroref16_Post_L1X := fun base x _ K => K (.exit 2) (stOf base X0_84_0q (((x.1, ()), (), (), (), (x.2.1, ()), ()), ((x.2.2.1, x.2.2.2.1, x.2.2.2.2.1, x.2.2.2.2.2.1, ()), (), (), x.2.2.2.2.2.2.1, x.2.2.2.2.2.2.2.1, x.2.2.2.2.2.2.2.2.1, x.2.2.2.2.2.2.2.2.2, ())))
def L84_0q : LoopSum := ⟨I84_0q, O84_0q, giroref16_Post_L1X, fun k d => c84_0q (giroref16_Post_L1 k k) d, e84_0q⟩
def I84_1q : Spec := ⟨[(1, .c (.dat false y10q)), (2, .c (.lit (.ptr 1001000 0))), (4, .c (.lit (.ptr 1001001 0))), (6, .c (.lit (.ptr 1001002 0))), (7, .c (.int .i64))], [.box true [.dat true y6q, .dat true (.sl (.int .i64)), .dat true (.int .i64), .dat true (.sl (.int .i64))], .box true [.lit .nsl, .lit .nsl, .lit .nsl, .lit .nsl], .box true [.lit (.osl 1001003 none), .lit (.osl 1001004 none), .lit (.osl 1001005 none), .lit (.osl 1001006 none)], .arr true y6q, .mat, .arr true (.int .i64), .mat], []⟩
def X0_84_1q : Spec := ⟨[(2, .c (.lit (.ptr 1001000 0))), (4, .c (.lit (.ptr 1001001 0))), (6, .c (.lit (.ptr 1001002 0)))], [.box true [.dat true y6q, .dat true (.sl (.int .i64)), .dat true (.int .i64), .dat true (.sl (.int .i64))], .box true [.lit .nsl, .lit .nsl, .lit .nsl, .lit .nsl], .box true [.lit (.osl 1001003 none), .lit (.osl 1001004 none), .lit (.osl 1001005 none), .lit (.osl 1001006 none)], .arr true y6q, .mat, .arr true (.int .i64), .mat], []⟩
def O84_1q : List (Ex × Spec) := [(.exit 0, X0_84_1q)]
def c84_1q (f : giroref16_Post_L0T) (d : I84_1q.den) : Option giroref16_Post_L0X := f d.1.1.1 d.1.2.2.2.2.1.1 d.2.1.1 d.2.1.2.1 d.2.1.2.2.1 d.2.1.2.2.2.1 d.2.2.2.2.1 d.2.2.2.2.2.1 d.2.2.2.2.2.2.1 d.2.2.2.2.2.2.2.1
def T84_1q : OutD O84_1q → giroref16_Post_L0X := fun d => (d.2.1.1, d.2.1.2.1, d.2.1.2.2.1, d.2.1.2.2.2.1, d.2.2.2.2.1, d.2.2.2.2.2.1, d.2.2.2.2.2.2.1, d.2.2.2.2.2.2.2.1)
def e84_1q : Elim giroref16_Post_L0X := fun base x _ K => K (.exit 0) (stOf base X0_84_1q (((), (), (), ()), ((x.1, x.2.1, x.2.2.1, x.2.2.2.1, ()), (), (), x.2.2.2.2.1, x.2.2.2.2.2.1, x.2.2.2.2.2.2.1, x.2.2.2.2.2.2.2, ())))
def L84_1q : LoopSum := ⟨I84_1q, O84_1q, giroref16_Post_L0X, fun k d => c84_1q (giroref16_Post_L0 k k) d, e84_1q⟩
def A84q : Notes := ⟨[], [(9, L84_0q), (5, L84_1q)]⟩
theorem B84q : EnvB E84q := env_n mixed_orders ⟨F72q, F74q, F76q, F77q, F79q, F83q, trivial⟩
theorem st84_0q : StepOK E84q A84q 0 84 (loopAt (loopAt (bodyOf Proofs.Tryz.f16) 0) 0) I84_0q O84_0q T84_0q c84_0q giroref16_Post_L1b := by intro k rec d; kernel_rfl
theorem lk84_0q : LoopOK E84q.P 1000 0 84 (loopAt (loopAt (bodyOf Proofs.Tryz.f16) 0) 0) L84_0q := loop_b B84q st84_0q giroref16_Post_L1 e84_0q (fun _ _ _ => rfl) loops0
theorem st84_1q : StepOK E84q A84q 0 84 (loopAt (bodyOf Proofs.Tryz.f16) 0) I84_1q O84_1q T84_1q c84_1q giroref16_Post_L0b := by intro k rec d; kernel_rfl
theorem lk84_1q : LoopOK E84q.P 1000 0 84 (loopAt (bodyOf Proofs.Tryz.f16) 0) L84_1q := loop_b B84q st84_1q giroref16_Post_L0 e84_1q (fun _ _ _ => rfl) (loops1 lk84_0q)
def as84q : List AS := [.agg [.dat true y6q, .dat true (.sl (.int .i64)), .dat true (.int .i64), .dat true (.sl (.int .i64))], .c (.dat false y10q)]
def rs84q : RS := .tup [(true, [.fro y6q, .fro (.sl (.int .i64)), .fro (.int .i64), .fro (.sl (.int .i64))]), (false, [.int .i64])]
def pk84q : (List K4q) × (List (List Int)) × (List Int) × (List (List Int)) × Int → RL rs84q.cells := fun x => (x.1, x.2.1, x.2.2.1, x.2.2.2.1, x.2.2.2.2, ())
def up84q : RL rs84q.cells → (List K4q) × (List (List Int)) × (List Int) × (List (List Int)) × Int := fun d => (d.1, d.2.1, d.2.2.1, d.2.2.2.1, d.2.2.2.2.1)
def s84q (k : Nat) (d : AD as84q) := giroref16_Post k d.1 d.2.1 d.2.2.1 d.2.2.2.1 d.2.2.2.2.1
def R84q : Nat × Entry := (16, fun k nm args h => entry as84q rs84q (s84q k) pk84q nm args h)
theorem ev84q : EvOK E84q A84q 0 Proofs.Tryz.f16 as84q rs84q up84q s84q := by intro k d; kernel_rfl
theorem F84q : FnOK Proofs.Tryz.prog R84q := fn_b B84q ev84q (loops1 lk84_1q)

/-! ### giro/girolaw27.rules -/
noncomputable def E92q : Env := ⟨Proofs.Tryz.prog, fun _ => false, sumsOf []⟩
def A92q : Notes := ⟨[], []⟩
theorem B92q : EnvB E92q := env_n mixed_orders trivial
def as92q : List AS := [.c (.int .i64)]
def rs92q : RS := .agg [.int .i64, .own y0q, .int .i64, .int .i64, .int .i64]
def pk92q : Int × (List K5q) × Int × Int × Int → RL rs92q.cells := fun x => (x.1, x.2.1, x.2.2.1, x.2.2.2.1, x.2.2.2.2, ())
def up92q : RL rs92q.cells → Int × (List K5q) × Int × Int × Int := fun d => (d.1, d.2.1, d.2.2.1, d.2.2.2.1, d.2.2.2.2.1)
def s92q (k : Nat) (d : AD as92q) := girolaw27_rules k d.1
def R92q : Nat × Entry := (32, fun k nm args h => entry as92q rs92q (s92q k) pk92q nm args h)
theorem ev92q : EvOK E92q A92q 0 Proofs.Tryz.f32 as92q rs92q up92q s92q := by intro k d; kernel_rfl
theorem F92q : FnOK Proofs.Tryz.prog R92q := fn_0 B92q ev92q

/-! ### giro/core.New -/
noncomputable def E93q : Env := ⟨Proofs.Tryz.prog, fun _ => false, sumsOf [R23q, R22q]⟩
def I93_0q : Spec := ⟨[(1, .c (.lit (.ptr 1001000 0))), (2, .c (.lit (.ptr 1001001 0))), (3, .c (.int .i64)), (4, .c (.lit (.ptr 1001002 0))), (20, .c (.dat false y0q)), (21, .c (.int .i64)), (22, .c (.int .i64))], [.box true [.int .i64, .dat false y0q, .int .i64, .int .i64, .int .i64], .box true [.int .i64, .lit .nsl, .lit .nsl, .lit .nsl, .lit .nsl, .lit .nsl, .lit .nsl, .lit .nsl, .lit .nsl, .int .i64, .bool], .box true [.int .i64, .lit (.osl 1001003 none), .lit (.osl 1001004 none), .lit (.osl 1001005 none), .lit (.osl 1001006 none), .lit (.osl 1001007 none), .lit .nsl, .lit .nsl, .lit .nsl, .int .i64, .bool], .arr true y6q, .mat, .arr true (.int .i64), .mat, .arr true (.int .i64)], [(4, some 5, (.int .i64), false)]⟩
def X0_93_0q : Spec := ⟨[(1, .c (.lit (.ptr 1001000 0))), (2, .c (.lit (.ptr 1001001 0))), (3, .c (.int .i64)), (4, .c (.lit (.ptr 1001002 0)))], [.box true [.int .i64, .dat false y0q, .int .i64, .int .i64, .int .i64], .box true [.int .i64, .lit .nsl, .lit .nsl, .lit .nsl, .lit .nsl, .lit .nsl, .lit .nsl, .lit .nsl, .lit .nsl, .int .i64, .bool], .box true [.int .i64, .lit (.osl 1001003 none), .lit (.osl 1001004 none), .lit (.osl 1001005 none), .lit (.osl 1001006 none), .lit (.osl 1001007 none), .lit .nsl, .lit .nsl, .lit .nsl, .int .i64, .bool], .arr true y6q, .mat, .arr true (.int .i64), .mat, .arr true (.int .i64)], []⟩
def O93_0q : List (Ex × Spec) := [(.exit 0, X0_93_0q)]
def c93_0q (f : core_New_L0T) (d : I93_0q.den) : Option core_New_L0X := f d.1.2.2.1.1 d.1.2.2.2.2.1.1 d.1.2.2.2.2.2.1.1 d.1.2.2.2.2.2.2.1.1 d.2.1.1 d.2.1.2.1 d.2.1.2.2.1 d.2.1.2.2.2.1 d.2.1.2.2.2.2.1 d.2.2.1.1 d.2.2.1.2.1 d.2.2.1.2.2.1 d.2.2.2.1.1 d.2.2.2.1.2.1 d.2.2.2.1.2.2.1 d.2.2.2.2.1 d.2.2.2.2.2.1 d.2.2.2.2.2.2.1 d.2.2.2.2.2.2.2.1 d.2.2.2.2.2.2.2.2.1
def T93_0q : OutD O93_0q → core_New_L0X := fun d => (d.1.2.2.1.1, d.2.1.1, d.2.1.2.1, d.2.1.2.2.1, d.2.1.2.2.2.1, d.2.1.2.2.2.2.1, d.2.2.1.1, d.2.2.1.2.1, d.2.2.1.2.2.1, d.2.2.2.1.1, d.2.2.2.1.2.1, d.2.2.2.1.2.2.1, d.2.2.2.2.1, d.2.2.2.2.2.1, d.2.2.2.2.2.2.1, d.2.2.2.2.2.2.2.1, d.2.2.2.2.2.2.2.2.1)
def e93_0q : Elim core_New_L0X := fun base x _ K => K (.exit 0) (stOf base X0_93_0q (((), (), (x.1, ()), (), ()), ((x.2.1, x.2.2.1, x.2.2.2.1, x.2.2.2.2.1, x.2.2.2.2.2.1, ()), (x.2.2.2.2.2.2.1, x.2.2.2.2.2.2.2.1, x.2.2.2.2.2.2.2.2.1, ()), (x.2.2.2.2.2.2.2.2.2.1, x.2.2.2.2.2.2.2.2.2.2.1, x.2.2.2.2.2.2.2.2.2.2.2.1, ()), x.2.2.2.2.2.2.2.2.2.2.2.2.1, x.2.2.2.2.2.2.2.2.2.2.2.2.2.1, x.2.2.2.2.2.2.2.2.2.2.2.2.2.2.1, x.2.2.2.2.2.2.2.2.2.2.2.2.2.2.2.1, x.2.2.2.2.2.2.2.2.2.2.2.2.2.2.2.2, ())))
def L93_0q : LoopSum := ⟨I93_0q, O93_0q, core_New_L0X, fun k d => c93_0q (core_New_L0 k k) d, e93_0q⟩
def I93_1q : Spec := ⟨[(1, .c (.lit (.ptr 1001000 0))), (2, .c (.lit (.ptr 1001001 0))), (4, .c (.lit (.ptr 1001002 0))), (34, .c (.int .i64)), (35, .c (.int .i64))], [.box true [.int .i64, .dat false y0q, .int .i64, .int .i64, .int .i64], .box true [.int .i64, .lit .nsl, .lit .nsl, .lit .nsl, .lit .nsl, .lit .nsl, .lit .nsl, .lit .nsl, .lit .nsl, .int .i64, .bool], .box true [.int .i64, .lit (.osl 1001003 none), .lit (.osl 1001004 none), .lit (.osl 1001005 none), .lit (.osl 1001006 none), .lit (.osl 1001007 none), .lit (.osl 1001008 none), .lit .nsl, .lit .nsl, .int .i64, .bool], .arr true y6q, .mat, .arr true (.int .i64), .mat, .arr true (.int .i64), .mat], [(4, some 6, (.sl (.int .i64)), true)]⟩
def X0_93_1q : Spec := ⟨[(2, .c (.lit (.ptr 1001000 0))), (4, .c (.lit (.ptr 1001001 0)))], [.box true [.int .i64, .lit .nsl, .lit .nsl, .lit .nsl, .lit .nsl, .lit .nsl, .lit .nsl, .lit .nsl, .lit .nsl, .int .i64, .bool], .box true [.int .i64, .lit (.osl 1001002 none), .lit (.osl 1001003 none), .lit (.osl 1001004 none), .lit (.osl 1001005 none), .lit (.osl 1001006 none), .lit (.osl 1001007 none), .lit .nsl, .lit .nsl, .int .i64, .bool], .arr true y6q, .mat, .arr true (.int .i64), .mat, .arr true (.int .i64), .mat], []⟩
def O93_1q : List (Ex × Spec) := [(.exit 2, X0_93_1q)]
def c93_1q (f : core_New_L1T) (d : I93_1q.den) : Option core_New_L1X := f d.1.2.2.2.1.1 d.1.2.2.2.2.1.1 d.2.1.1 d.2.1.2.1 d.2.1.2.2.1 d.2.1.2.2.2.1 d.2.1.2.2.2.2.1 d.2.2.1.1 d.2.2.1.2.1 d.2.2.1.2.2.1 d.2.2.2.1.1 d.2.2.2.1.2.1 d.2.2.2.1.2.2.1 d.2.2.2.2.1 d.2.2.2.2.2.1 d.2.2.2.2.2.2.1 d.2.2.2.2.2.2.2.1 d.2.2.2.2.2.2.2.2.1 d.2.2.2.2.2.2.2.2.2.1
def T93_1q : OutD O93_1q → core_New_L1X := fun d => (d.2.1.1, d.2.1.2.1, d.2.1.2.2.1, d.2.2.1.1, d.2.2.1.2.1, d.2.2.1.2.2.1, d.2.2.2.1, d.2.2.2.2.1, d.2.2.2.2.2.1, d.2.2.2.2.2.2.1, d.2.2.2.2.2.2.2.1, d.2.2.2.2.2.2.2.2.1)
def e93_1q : Elim core_New_L1X := fun base x _ K => K (.exit 2) (stOf base X0_93_1q (((), (), ()), ((x.1, x.2.1, x.2.2.1, ()), (x.2.2.2.1, x.2.2.2.2.1, x.2.2.2.2.2.1, ()), x.2.2.2.2.2.2.1, x.2.2.2.2.2.2.2.1, x.2.2.2.2.2.2.2.2.1, x.2.2.2.2.2.2.2.2.2.1, x.2.2.2.2.2.2.2.2.2.2.1, x.2.2.2.2.2.2.2.2.2.2.2, ())))
def L93_1q : LoopSum := ⟨I93_1q, O93_1q, core_New_L1X, fun k d => c93_1q (core_New_L1 k k) d, e93_1q⟩
def A93q : Notes := ⟨[43, 44], [(4, L93_0q), (9, L93_1q)]⟩
theorem B93q : EnvB E93q := env_n mixed_orders ⟨F23q, F22q, trivial⟩
theorem st93_0q : StepOK E93q A93q 0 48 (loopAt (bodyOf Proofs.Tryz.f22) 0) I93_0q O93_0q T93_0q c93_0q core_New_L0b := by intro k rec d; kernel_rfl
theorem lk93_0q : LoopOK E93q.P 1000 0 48 (loopAt (bodyOf Proofs.Tryz.f22) 0) L93_0q := loop_b B93q st93_0q core_New_L0 e93_0q (fun _ _ _ => rfl) loops0
theorem st93_1q : StepOK E93q A93q 0 48 (loopAt (bodyOf Proofs.Tryz.f22) 1) I93_1q O93_1q T93_1q c93_1q core_New_L1b := by intro k rec d; kernel_rfl
theorem lk93_1q : LoopOK E93q.P 1000 0 48 (loopAt (bodyOf Proofs.Tryz.f22) 1) L93_1q := loop_b B93q st93_1q core_New_L1 e93_1q (fun _ _ _ => rfl) loops0
def as93q : List AS := [.agg [.int .i64, .dat false y0q, .int .i64, .int .i64, .int .i64]]
def rs93q : RS := .agg [.int .i64, .own y6q, .mat, .own (.int .i64), .mat, .own (.int .i64), .mat, .own y10q, .own (.int .i64), .int .i64, .bool]
def pk93q : Int × (List K4q) × (List (List Int)) × (List Int) × (List (List Int)) × (List Int) × (List (List Int)) × (List K3q) × (List Int) × Int × Bool → RL rs93q.cells := fun x => (x.1, x.2.1, x.2.2.1, x.2.2.2.1, x.2.2.2.2.1, x.2.2.2.2.2.1, x.2.2.2.2.2.2.1, x.2.2.2.2.2.2.2.1, x.2.2.2.2.2.2.2.2.1, x.2.2.2.2.2.2.2.2.2.1, x.2.2.2.2.2.2.2.2.2.2, ())
def up93q : RL rs93q.cells → Int × (List K4q) × (List (List Int)) × (List Int) × (List (List Int)) × (List Int) × (List (List Int)) × (List K3q) × (List Int) × Int × Bool := fun d => (d.1, d.2.1, d.2.2.1, d.2.2.2.1, d.2.2.2.2.1, d.2.2.2.2.2.1, d.2.2.2.2.2.2.1, d.2.2.2.2.2.2.2.1, d.2.2.2.2.2.2.2.2.1, d.2.2.2.2.2.2.2.2.2.1, d.2.2.2.2.2.2.2.2.2.2.1)
def s93q (k : Nat) (d : AD as93q) := core_New k d.1 d.2.1 d.2.2.1 d.2.2.2.1 d.2.2.2.2.1
def R93q : Nat × Entry := (22, fun k nm args h => entry as93q rs93q (s93q k) pk93q nm args h)
theorem ev93q : EvOK E93q A93q 0 Proofs.Tryz.f22 as93q rs93q up93q s93q := by intro k d; kernel_rfl
theorem F93q : FnOK Proofs.Tryz.prog R93q := fn_b B93q ev93q (loopsOK_of (n := 2) (by kernel_rfl) fun i hi => match i, hi with | 0, _ => ⟨L93_0q, by kernel_rfl, lk93_0q⟩ | 1, _ => ⟨L93_1q, by kernel_rfl, lk93_1q⟩ | i + 2, hi => absurd hi (by omega))

/-! ### giro/core.in -/
noncomputable def E94q : Env := ⟨Proofs.Tryz.prog, fun _ => false, sumsOf []⟩
def A94q : Notes := ⟨[], []⟩
theorem B94q : EnvB E94q := env_n mixed_orders trivial
def as94q : List AS := [.c (.int .i64), .c (.int .i64), .c (.int .i64)]
def rs94q : RS := .c (.bool)
def pk94q : Bool → RL rs94q.cells := fun x => (x, ())
def up94q : RL rs94q.cells → Bool := fun d => d.1
def s94q (k : Nat) (d : AD as94q) := core_in k d.1 d.2.1 d.2.2.1
def R94q : Nat × Entry := (104, fun k nm args h => entry as94q rs94q (s94q k) pk94q nm args h)
theorem ev94q : EvOK E94q A94q 0 Proofs.Tryz.f104 as94q rs94q up94q s94q := by intro k d; kernel_rfl
theorem F94q : FnOK Proofs.Tryz.prog R94q := fn_0 B94q ev94q

/-! ### giro/core.isHeld$1 -/
noncomputable def E95q : Env := ⟨Proofs.Tryz.prog, fun _ => false, sumsOf [R94q]⟩
def A95q : Notes := ⟨[], []⟩
theorem B95q : EnvB E95q := env_n mixed_orders ⟨F94q, trivial⟩
def as95q : List AS := [.c (.int .i64)]
def rs95q : RS := .c (.bool)
def pk95q : Bool → RL rs95q.cells := fun x => (x, ())
def up95q : RL rs95q.cells → Bool := fun d => d.1
def s95q (k : Nat) (d : AD as95q) := core_isHeld_fn1 k d.1
def R95q : Nat × Entry := (151, fun k nm args h => entry as95q rs95q (s95q k) pk95q nm args h)
theorem ev95q : EvOK E95q A95q 0 Proofs.Tryz.f151 as95q rs95q up95q s95q := by intro k d; kernel_rfl
theorem F95q : FnOK Proofs.Tryz.prog R95q := fn_0 B95q ev95q

/-! ### slices.IndexFunc[[]int64,int64] -/
noncomputable def E96q : Env := ⟨Proofs.Tryz.prog, fun _ => false, sumsOf [R95q]⟩
def I96_0q : Spec := ⟨[(0, .c (.dat false (.int .i64))), (1, .c (.lit (.fn 151 []))), (7, .c (.int .i64)), (8, .c (.int .i64))], [], []⟩
def X0_96_0q : Spec := ⟨[], [], []⟩
def X1_96_0q : Spec := ⟨[(4, .c (.int .i64))], [], []⟩
def O96_0q : List (Ex × Spec) := [(.exit 0, X0_96_0q), (.ret, X1_96_0q)]
def c96_0q (f : slices_IndexFunc_int64__core_isHeld_fn1_L0T) (d : I96_0q.den) : Option (Unit ⊕ Int) := f d.1.1.1 d.1.2.2.1.1 d.1.2.2.2.1.1
def T96_0q : OutD O96_0q → (Unit ⊕ Int)
 | .inl d => .inl ()
 | .inr d => .inr d.1.1.1
def e96_0q : Elim (Unit ⊕ Int) := fun base x _ K => match x with
 | .inl x => K (.exit 0) (stOf base X0_96_0q ((), ()))
 | .inr x => K .ret (stOf base X1_96_0q (((x, ()), ()), ()))
def L96_0q : LoopSum := ⟨I96_0q, O96_0q, (Unit ⊕ Int), fun k d => c96_0q (slices_IndexFunc_int64__core_isHeld_fn1_L0 k k) d, e96_0q⟩
def A96q : Notes := ⟨[], [(2, L96_0q)]⟩
theorem B96q : EnvB E96q := env_n mixed_orders ⟨F95q, trivial⟩
theorem st96_0q : StepOK E96q A96q 0 19 (loopAt (bodyOf Proofs.Tryz.f181) 0) I96_0q O96_0q T96_0q c96_0q slices_IndexFunc_int64__core_isHeld_fn1_L0b := by intro k rec d; kernel_rfl
theorem lk96_0q : LoopOK E96q.P 1000 0 19 (loopAt (bodyOf Proofs.Tryz.f181) 0) L96_0q := loop_b B96q st96_0q slices_IndexFunc_int64__core_isHeld_fn1_L0 e96_0q (by intro o R K; rcases o with o | o <;> rfl) loops0
def as96q : List AS := [.c (.dat false (.int .i64)), .c (.fn 151)]
def rs96q : RS := .c (.int .i64)
def pk96q : Int → RL rs96q.cells := fun x => (x, ())
def up96q : RL rs96q.cells → Int := fun d => d.1
def s96q (k : Nat) (d : AD as96q) := slices_IndexFunc_int64__core_isHeld_fn1 k d.1
def R96q : Nat × Entry := (181, fun k nm args h => entry as96q rs96q (s96q k) pk96q nm args h)
theorem ev96q : EvOK E96q A96q 0 Proofs.Tryz.f181 as96q rs96q up96q s96q := by intro k d; kernel_rfl
theorem F96q : FnOK Proofs.Tryz.prog R96q := fn_b B96q ev96q (loops1 lk96_0q)

/-! ### slices.ContainsFunc[[]int64,int64] -/
noncomputable def E97q : Env := ⟨Proofs.Tryz.prog, fun _ => false, sumsOf [R96q]⟩
def A97q : Notes := ⟨[], []⟩
theorem B97q : EnvB E97q := env_n mixed_orders ⟨F96q, trivial⟩
def as97q : List AS := [.c (.dat false (.int .i64)), .c (.fn 151)]
def rs97q : RS := .c (.bool)
def pk97q : Bool → RL rs97q.cells := fun x => (x, ())
def up97q : RL rs97q.cells → Bool := fun d => d.1
def s97q (k : Nat) (d : AD as97q) := slices_ContainsFunc_int64__core_isHeld_fn1 k d.1
def R97q : Nat × Entry := (150, fun k nm args h => entry as97q rs97q (s97q k) pk97q nm args h)
theorem ev97q : EvOK E97q A97q 0 Proofs.Tryz.f150 as97q rs97q up97q s97q := by intro k d; kernel_rfl
theorem F97q : FnOK Proofs.Tryz.prog R97q := fn_0 B97q ev97q

/-! ### giro/cash.isCut -/
noncomputable def E98q : Env := ⟨Proofs.Tryz.prog, fun _ => false, sumsOf []⟩
def A98q : Notes := ⟨[], []⟩
theorem B98q : EnvB E98q := env_n mixed_orders trivial
def as98q : List AS := [.c (.int .i64)]
def rs98q : RS := .c (.bool)
def pk98q : Bool → RL rs98q.cells := fun x => (x, ())
def up98q : RL rs98q.cells → Bool := fun d => d.1
def s98q (k : Nat) (d : AD as98q) := cash_isCut k d.1
def R98q : Nat × Entry := (192, fun k nm args h => entry as98q rs98q (s98q k) pk98q nm args h)
theorem ev98q : EvOK E98q A98q 0 Proofs.Tryz.f192 as98q rs98q up98q s98q := by intro k d; kernel_rfl
theorem F98q : FnOK Proofs.Tryz.prog R98q := fn_0 B98q ev98q

/-! ### math/bits.Mul64 -/
noncomputable def E99q : Env := ⟨Proofs.Tryz.prog, fun _ => false, sumsOf []⟩
def A99q : Notes := ⟨[], []⟩
theorem B99q : EnvB E99q := env_n mixed_orders trivial
def as99q : List AS := [.c (.int .u64), .c (.int .u64)]
def rs99q : RS := .tup [(false, [.int .u64]), (false, [.int .u64])]
def pk99q : Int × Int → RL rs99q.cells := fun x => (x.1, x.2, ())
def up99q : RL rs99q.cells → Int × Int := fun d => (d.1, d.2.1)
def s99q (k : Nat) (d : AD as99q) := math_bits_Mul64 k d.1 d.2.1
def R99q : Nat × Entry := (193, fun k nm args h => entry as99q rs99q (s99q k) pk99q nm args h)
theorem ev99q : EvOK E99q A99q 0 Proofs.Tryz.f193 as99q rs99q up99q s99q := by intro k d; kernel_rfl
theorem F99q : FnOK Proofs.Tryz.prog R99q := fn_0 B99q ev99q

/-! ### math/bits.Len64 -/
noncomputable def E100q : Env := ⟨Proofs.Tryz.prog, fun _ => false, sumsOf []⟩
def A100q : Notes := ⟨[], []⟩
theorem B100q : EnvB E100q := env_n mixed_orders trivial
def as100q : List AS := [.c (.int .u64)]
def rs100q : RS := .c (.int .i64)
def pk100q : Int → RL rs100q.cells := fun x => (x, ())
def up100q : RL rs100q.cells → Int := fun d => d.1
def s100q (k : Nat) (d : AD as100q) := math_bits_Len64 k d.1
def R100q : Nat × Entry := (209, fun k nm args h => entry as100q rs100q (s100q k) pk100q nm args h)
theorem ev100q : EvOK E100q A100q 0 Proofs.Tryz.f209 as100q rs100q up100q s100q := by intro k d; kernel_rfl
theorem F100q : FnOK Proofs.Tryz.prog R100q := fn_0 B100q ev100q

/-! ### math/bits.LeadingZeros64 -/
noncomputable def E101q : Env := ⟨Proofs.Tryz.prog, fun _ => false, sumsOf [R100q]⟩
def A101q : Notes := ⟨[], []⟩
theorem B101q : EnvB E101q := env_n mixed_orders ⟨F100q, trivial⟩
def as101q : List AS := [.c (.int .u64)]
def rs101q : RS := .c (.int .i64)
def pk101q : Int → RL rs101q.cells := fun x => (x, ())
def up101q : RL rs101q.cells → Int := fun d => d.1
def s101q (k : Nat) (d : AD as101q) := math_bits_LeadingZeros64 k d.1
def R101q : Nat × Entry := (206, fun k nm args h => entry as101q rs101q (s101q k) pk101q nm args h)
theorem ev101q : EvOK E101q A101q 0 Proofs.Tryz.f206 as101q rs101q up101q s101q := by intro k d; kernel_rfl
theorem F101q : FnOK Proofs.Tryz.prog R101q := fn_0 B101q ev101q

/-! ### math/bits.Div64 -/
noncomputable def E102q : Env := ⟨Proofs.Tryz.prog, fun _ => false, sumsOf [R101q]⟩
def I102_0q : Spec := ⟨[(2, .c (.int .u64)), (8, .c (.int .u64)), (9, .c (.int .u64)), (10, .c (.int .u64)), (11, .c (.int .u64)), (13, .c (.int .u64)), (14, .c (.int .u64)), (15, .c (.int .u64)), (16, .c (.int .u64))], [], []⟩
def X0_102_0q : Spec := ⟨[(2, .c (.int .u64)), (8, .c (.int .u64)), (9, .c (.int .u64)), (10, .c (.int .u64)), (11, .c (.int .u64)), (13, .c (.int .u64)), (14, .c (.int .u64)), (15, .c (.int .u64))], [], []⟩
def O102_0q : List (Ex × Spec) := [(.exit 0, X0_102_0q)]
def c102_0q (f : math_bits_Div64_L0T) (d : I102_0q.den) : Option math_bits_Div64_L0X := f d.1.1.1 d.1.2.1.1 d.1.2.2.1.1 d.1.2.2.2.1.1 d.1.2.2.2.2.1.1 d.1.2.2.2.2.2.1.1 d.1.2.2.2.2.2.2.1.1 d.1.2.2.2.2.2.2.2.1.1 d.1.2.2.2.2.2.2.2.2.1.1
def T102_0q : OutD O102_0q → math_bits_Div64_L0X := fun d => (d.1.1.1, d.1.2.1.1, d.1.2.2.1.1, d.1.2.2.2.1.1, d.1.2.2.2.2.1.1, d.1.2.2.2.2.2.1.1, d.1.2.2.2.2.2.2.1.1, d.1.2.2.2.2.2.2.2.1.1)
def e102_0q : Elim math_bits_Div64_L0X := fun base x _ K => K (.exit 0) (stOf base X0_102_0q (((x.1, ()), (x.2.1, ()), (x.2.2.1, ()), (x.2.2.2.1, ()), (x.2.2.2.2.1, ()), (x.2.2.2.2.2.1, ()), (x.2.2.2.2.2.2.1, ()), (x.2.2.2.2.2.2.2, ()), ()), ()))
def L102_0q : LoopSum := ⟨I102_0q, O102_0q, math_bits_Div64_L0X, fun k d => c102_0q (math_bits_Div64_L0 k k) d, e102_0q⟩
def I102_1q : Spec := ⟨[(2, .c (.int .u64)), (8, .c (.int .u64)), (9, .c (.int .u64)), (10, .c (.int .u64)), (14, .c (.int .u64)), (15, .c (.int .u64)), (16, .c (.int .u64)), (17, .c (.int .u64)), (18, .c (.int .u64))], [], []⟩
def X0_102_1q : Spec := ⟨[(2, .c (.int .u64)), (8, .c (.int .u64)), (14, .c (.int .u64)), (15, .c (.int .u64)), (17, .c (.int .u64)), (18, .c (.int .u64))], [], []⟩
def O102_1q : List (Ex × Spec) := [(.exit 2, X0_102_1q)]
def c102_1q (f : math_bits_Div64_L1T) (d : I102_1q.den) : Option math_bits_Div64_L1X := f d.1.1.1 d.1.2.1.1 d.1.2.2.1.1 d.1.2.2.2.1.1 d.1.2.2.2.2.1.1 d.1.2.2.2.2.2.1.1 d.1.2.2.2.2.2.2.1.1 d.1.2.2.2.2.2.2.2.1.1 d.1.2.2.2.2.2.2.2.2.1.1
def T102_1q : OutD O102_1q → math_bits_Div64_L1X := fun d => (d.1.1.1, d.1.2.1.1, d.1.2.2.1.1, d.1.2.2.2.1.1, d.1.2.2.2.2.1.1, d.1.2.2.2.2.2.1.1)
def e102_1q : Elim math_bits_Div64_L1X := fun base x _ K => K (.exit 2) (stOf base X0_102_1q (((x.1, ()), (x.2.1, ()), (x.2.2.1, ()), (x.2.2.2.1, ()), (x.2.2.2.2.1, ()), (x.2.2.2.2.2, ()), ()), ()))
def L102_1q : LoopSum := ⟨I102_1q, O102_1q, math_bits_Div64_L1X, fun k d => c102_1q (math_bits_Div64_L1 k k) d, e102_1q⟩
def A102q : Notes := ⟨[], [(17, L102_0q), (24, L102_1q)]⟩
theorem B102q : EnvB E102q := env_n mixed_orders ⟨F101q, trivial⟩
theorem st102_0q : StepOK E102q A102q 0 135 (loopAt (bodyOf Proofs.Tryz.f194) 0) I102_0q O102_0q T102_0q c102_0q math_bits_Div64_L0b := by intro k rec d; kernel_rfl
theorem lk102_0q : LoopOK E102q.P 1000 0 135 (loopAt (bodyOf Proofs.Tryz.f194) 0) L102_0q := loop_b B102q st102_0q math_bits_Div64_L0 e102_0q (fun _ _ _ => rfl) loops0
theorem st102_1q : StepOK E102q A102q 0 135 (loopAt (bodyOf Proofs.Tryz.f194) 1) I102_1q O102_1q T102_1q c102_1q math_bits_Div64_L1b := by intro k rec d; kernel_rfl
theorem lk102_1q : LoopOK E102q.P 1000 0 135 (loopAt (bodyOf Proofs.Tryz.f194) 1) L102_1q := loop_b B102q st102_1q math_bits_Div64_L1 e102_1q (fun _ _ _ => rfl) loops0
def as102q : List AS := [.c (.int .u64), .c (.int .u64), .c (.int .u64)]
def rs102q : RS := .tup [(false, [.int .u64]), (false, [.int .u64])]
def pk102q : Int × Int → RL rs102q.cells := fun x => (x.1, x.2, ())
def up102q : RL rs102q.cells → Int × Int := fun d => (d.1, d.2.1)
def s102q (k : Nat) (d : AD as102q) := math_bits_Div64 k d.1 d.2.1 d.2.2.1
def R102q : Nat × Entry := (194, fun k nm args h => entry as102q rs102q (s102q k) pk102q nm args h)
theorem ev102q : EvOK E102q A102q 0 Proofs.Tryz.f194 as102q rs102q up102q s102q := by intro k d; kernel_rfl
theorem F102q : FnOK Proofs.Tryz.prog R102q := fn_b B102q ev102q (loopsOK_of (n := 2) (by kernel_rfl) fun i hi => match i, hi with | 0, _ => ⟨L102_0q, by kernel_rfl, lk102_0q⟩ | 1, _ => ⟨L102_1q, by kernel_rfl, lk102_1q⟩ | i + 2, hi => absurd hi (by omega))

def R103q : Nat × Entry := (76, add64E)
theorem F103q : FnOK Proofs.Tryz.prog R103q := fn_add64 (fn := Proofs.Tryz.f76)

/-! ### giro/cash.Worth -/
noncomputable def E104q : Env := ⟨Proofs.Tryz.prog, fun _ => false, sumsOf [R98q, R99q, R102q, R103q]⟩
def A104q : Notes := ⟨[], []⟩
theorem B104q : EnvB E104q := env_n mixed_orders ⟨F98q, F99q, F102q, F103q, trivial⟩
def as104q : List AS := [.c (.int .i64), .c (.int .i64), .c (.int .i64)]
def rs104q : RS := .tup [(false, [.int .i64]), (false, [.bool])]
def pk104q : Int × Bool → RL rs104q.cells := fun x => (x.1, x.2, ())
def up104q : RL rs104q.cells → Int × Bool := fun d => (d.1, d.2.1)
def s104q (k : Nat) (d : AD as104q) := cash_Worth k d.1 d.2.1 d.2.2.1
def R104q : Nat × Entry := (167, fun k nm args h => entry as104q rs104q (s104q k) pk104q nm args h)
theorem ev104q : EvOK E104q A104q 0 Proofs.Tryz.f167 as104q rs104q up104q s104q := by intro k d; kernel_rfl
theorem F104q : FnOK Proofs.Tryz.prog R104q := fn_0 B104q ev104q

/-! ### giro/cash.Sum -/
noncomputable def E105q : Env := ⟨Proofs.Tryz.prog, fun _ => false, sumsOf [R103q]⟩
def I105_0q : Spec := ⟨[(4, .c (.int .i64)), (5, .c (.int .u64)), (9, .c (.dat false (.int .i64))), (10, .c (.int .i64)), (11, .c (.int .i64))], [], []⟩
def X0_105_0q : Spec := ⟨[(4, .c (.int .i64)), (5, .c (.int .u64))], [], []⟩
def O105_0q : List (Ex × Spec) := [(.exit 0, X0_105_0q)]
def c105_0q (f : cash_Sum_L0T) (d : I105_0q.den) : Option K5q := f d.1.1.1 d.1.2.1.1 d.1.2.2.1.1 d.1.2.2.2.1.1 d.1.2.2.2.2.1.1
def T105_0q : OutD O105_0q → K5q := fun d => (d.1.1.1, d.1.2.1.1)
def e105_0q : Elim K5q := fun base x _ K => K (.exit 0) (stOf base X0_105_0q (((x.1, ()), (x.2, ()), ()), ()))
def L105_0q : LoopSum := ⟨I105_0q, O105_0q, K5q, fun k d => c105_0q (cash_Sum_L0 k k) d, e105_0q⟩
def A105q : Notes := ⟨[], [(4, L105_0q)]⟩
theorem B105q : EnvB E105q := env_n mixed_orders ⟨F103q, trivial⟩
theorem st105_0q : StepOK E105q A105q 0 37 (loopAt (bodyOf Proofs.Tryz.f45) 0) I105_0q O105_0q T105_0q c105_0q cash_Sum_L0b := by intro k rec d; kernel_rfl
theorem lk105_0q : LoopOK E105q.P 1000 0 37 (loopAt (bodyOf Proofs.Tryz.f45) 0) L105_0q := loop_b B105q st105_0q cash_Sum_L0 e105_0q (fun _ _ _ => rfl) loops0
def as105q : List AS := [.c (.dat false (.int .i64))]
def rs105q : RS := .tup [(false, [.int .i64]), (false, [.bool])]
def pk105q : Int × Bool → RL rs105q.cells := fun x => (x.1, x.2, ())
def up105q : RL rs105q.cells → Int × Bool := fun d => (d.1, d.2.1)
def s105q (k : Nat) (d : AD as105q) := cash_Sum k d.1
def R105q : Nat × Entry := (45, fun k nm args h => entry as105q rs105q (s105q k) pk105q nm args h)
theorem ev105q : EvOK E105q A105q 0 Proofs.Tryz.f45 as105q rs105q up105q s105q := by intro k d; kernel_rfl
theorem F105q : FnOK Proofs.Tryz.prog R105q := fn_b B105q ev105q (loops1 lk105_0q)

/-! ### giro/pool.Value -/
noncomputable def E106q : Env := ⟨Proofs.Tryz.prog, fun _ => false, sumsOf [R104q, R105q]⟩
def I106_0q : Spec := ⟨[(1, .c (.dat false (.int .i64))), (2, .c (.dat false (.int .i64))), (8, .c (.lit (.osl 1001000 none))), (25, .c (.dat false y0q)), (26, .c (.int .i64)), (27, .c (.int .i64))], [.arr true (.int .i64)], [(8, none, (.int .i64), false)]⟩
def X0_106_0q : Spec := ⟨[(8, .c (.lit (.osl 1001000 none)))], [.arr true (.int .i64)], []⟩
def X1_106_0q : Spec := ⟨[(6, .c (.int .i64)), (7, .c (.bool))], [], []⟩
def O106_0q : List (Ex × Spec) := [(.exit 0, X0_106_0q), (.ret, X1_106_0q)]
def c106_0q (f : pool_Value_L0T) (d : I106_0q.den) : Option ((List Int) ⊕ K1q) := f d.1.1.1 d.1.2.1.1 d.1.2.2.2.1.1 d.1.2.2.2.2.1.1 d.1.2.2.2.2.2.1.1 d.2.1
def T106_0q : OutD O106_0q → ((List Int) ⊕ K1q)
 | .inl d => .inl d.2.1
 | .inr d => .inr (d.1.1.1, d.1.2.1.1)
def e106_0q : Elim ((List Int) ⊕ K1q) := fun base x _ K => match x with
 | .inl x => K (.exit 0) (stOf base X0_106_0q (((), ()), (x, ())))
 | .inr x => K .ret (stOf base X1_106_0q (((x.1, ()), (x.2, ()), ()), ()))
def L106_0q : LoopSum := ⟨I106_0q, O106_0q, ((List Int) ⊕ K1q), fun k d => c106_0q (pool_Value_L0 k k) d, e106_0q⟩
def A106q : Notes := ⟨[], [(5, L106_0q)]⟩
theorem B106q : EnvB E106q := env_n mixed_orders ⟨F104q, F105q, trivial⟩
theorem st106_0q : StepOK E106q A106q 0 57 (loopAt (bodyOf Proofs.Tryz.f125) 0) I106_0q O106_0q T106_0q c106_0q pool_Value_L0b := by intro k rec d; kernel_rfl
theorem lk106_0q : LoopOK E106q.P 1000 0 57 (loopAt (bodyOf Proofs.Tryz.f125) 0) L106_0q := loop_b B106q st106_0q pool_Value_L0 e106_0q (by intro o R K; rcases o with o | o <;> rfl) loops0
def as106q : List AS := [.c (.dat false y0q), .c (.dat false (.int .i64)), .c (.dat false (.int .i64))]
def rs106q : RS := .tup [(false, [.int .i64]), (false, [.bool])]
def pk106q : Int × Bool → RL rs106q.cells := fun x => (x.1, x.2, ())
def up106q : RL rs106q.cells → Int × Bool := fun d => (d.1, d.2.1)
def s106q (k : Nat) (d : AD as106q) := pool_Value k d.1 d.2.1 d.2.2.1
def R106q : Nat × Entry := (125, fun k nm args h => entry as106q rs106q (s106q k) pk106q nm args h)
theorem ev106q : EvOK E106q A106q 0 Proofs.Tryz.f125 as106q rs106q up106q s106q := by intro k d; kernel_rfl
theorem F106q : FnOK Proofs.Tryz.prog R106q := fn_b B106q ev106q (loops1 lk106_0q)

/-! ### giro/core.isHeld$2 -/
noncomputable def E107q : Env := ⟨Proofs.Tryz.prog, fun _ => false, sumsOf []⟩
def A107q : Notes := ⟨[], []⟩
theorem B107q : EnvB E107q := env_n mixed_orders trivial
def as107q : List AS := [.c (.int .i64)]
def rs107q : RS := .c (.bool)
def pk107q : Bool → RL rs107q.cells := fun x => (x, ())
def up107q : RL rs107q.cells → Bool := fun d => d.1
def s107q (k : Nat) (d : AD as107q) := core_isHeld_fn2 k d.1
def R107q : Nat × Entry := (152, fun k nm args h => entry as107q rs107q (s107q k) pk107q nm args h)
theorem ev107q : EvOK E107q A107q 0 Proofs.Tryz.f152 as107q rs107q up107q s107q := by intro k d; kernel_rfl
theorem F107q : FnOK Proofs.Tryz.prog R107q := fn_0 B107q ev107q

/-! ### slices.IndexFunc[[]int64,int64] -/
noncomputable def E108q : Env := ⟨Proofs.Tryz.prog, fun _ => false, sumsOf [R107q]⟩
def I108_0q : Spec := ⟨[(0, .c (.dat false (.int .i64))), (1, .c (.lit (.fn 152 []))), (7, .c (.int .i64)), (8, .c (.int .i64))], [], []⟩
def X0_108_0q : Spec := ⟨[], [], []⟩
def X1_108_0q : Spec := ⟨[(4, .c (.int .i64))], [], []⟩
def O108_0q : List (Ex × Spec) := [(.exit 0, X0_108_0q), (.ret, X1_108_0q)]
def c108_0q (f : slices_IndexFunc_int64__core_isHeld_fn2_L0T) (d : I108_0q.den) : Option (Unit ⊕ Int) := f d.1.1.1 d.1.2.2.1.1 d.1.2.2.2.1.1
def T108_0q : OutD O108_0q → (Unit ⊕ Int)
 | .inl d => .inl ()
 | .inr d => .inr d.1.1.1
def e108_0q : Elim (Unit ⊕ Int) := fun base x _ K => match x with
 | .inl x => K (.exit 0) (stOf base X0_108_0q ((), ()))
 | .inr x => K .ret (stOf base X1_108_0q (((x, ()), ()), ()))
def L108_0q : LoopSum := ⟨I108_0q, O108_0q, (Unit ⊕ Int), fun k d => c108_0q (slices_IndexFunc_int64__core_isHeld_fn2_L0 k k) d, e108_0q⟩
def A108q : Notes := ⟨[], [(2, L108_0q)]⟩
theorem B108q : EnvB E108q := env_n mixed_orders ⟨F107q, trivial⟩
theorem st108_0q : StepOK E108q A108q 0 19 (loopAt (bodyOf Proofs.Tryz.f181) 0) I108_0q O108_0q T108_0q c108_0q slices_IndexFunc_int64__core_isHeld_fn2_L0b := by intro k rec d; kernel_rfl
theorem lk108_0q : LoopOK E108q.P 1000 0 19 (loopAt (bodyOf Proofs.Tryz.f181) 0) L108_0q := loop_b B108q st108_0q slices_IndexFunc_int64__core_isHeld_fn2_L0 e108_0q (by intro o R K; rcases o with o | o <;> rfl) loops0
def as108q : List AS := [.c (.dat false (.int .i64)), .c (.fn 152)]
def rs108q : RS := .c (.int .i64)
def pk108q : Int → RL rs108q.cells := fun x => (x, ())
def up108q : RL rs108q.cells → Int := fun d => d.1
def s108q (k : Nat) (d : AD as108q) := slices_IndexFunc_int64__core_isHeld_fn2 k d.1
def R108q : Nat × Entry := (181, fun k nm args h => entry as108q rs108q (s108q k) pk108q nm args h)
theorem ev108q : EvOK E108q A108q 0 Proofs.Tryz.f181 as108q rs108q up108q s108q := by intro k d; kernel_rfl
theorem F108q : FnOK Proofs.Tryz.prog R108q := fn_b B108q ev108q (loops1 lk108_0q)

/-! ### slices.ContainsFunc[[]int64,int64] -/
noncomputable def E109q : Env := ⟨Proofs.Tryz.prog, fun _ => false, sumsOf [R108q]⟩
def A109q : Notes := ⟨[], []⟩
theorem B109q : EnvB E109q := env_n mixed_orders ⟨F108q, trivial⟩
def as109q : List AS := [.c (.dat false (.int .i64)), .c (.fn 152)]
def rs109q : RS := .c (.bool)
def pk109q : Bool → RL rs109q.cells := fun x => (x, ())
def up109q : RL rs109q.cells → Bool := fun d => d.1
def s109q (k : Nat) (d : AD as109q) := slices_ContainsFunc_int64__core_isHeld_fn2 k d.1
def R109q : Nat × Entry := (150, fun k nm args h => entry as109q rs109q (s109q k) pk109q nm args h)
theorem ev109q : EvOK E109q A109q 0 Proofs.Tryz.f150 as109q rs109q up109q s109q := by intro k d; kernel_rfl
theorem F109q : FnOK Proofs.Tryz.prog R109q := fn_0 B109q ev109q

/-! ### giro/core.isHeld -/
noncomputable def E110q : Env := ⟨Proofs.Tryz.prog, fun _ => false, sumsOf [R97q, R106q, R109q]⟩
def I110_0q : Spec := ⟨[(2, .c (.lit (.ptr 1001000 0))), (3, .c (.lit (.ptr 1001001 0))), (28, .c (.dat false (.sl (.int .i64)))), (29, .c (.int .i64)), (30, .c (.int .i64))], [.box true [.int .i64, .dat false y0q, .int .i64, .int .i64, .int .i64], .box true [.int .i64, .dat false y6q, .dat false (.sl (.int .i64)), .dat false (.int .i64), .dat false (.sl (.int .i64)), .dat false (.int .i64), .dat false (.sl (.int .i64)), .dat false y10q, .dat false (.int .i64), .int .i64, .bool]], []⟩
def X0_110_0q : Spec := ⟨[], [], []⟩
def X1_110_0q : Spec := ⟨[(4, .c (.bool))], [], []⟩
def O110_0q : List (Ex × Spec) := [(.exit 0, X0_110_0q), (.ret, X1_110_0q)]
def c110_0q (f : core_isHeld_L0T) (d : I110_0q.den) : Option (Unit ⊕ Bool) := f d.1.2.2.1.1 d.1.2.2.2.1.1 d.1.2.2.2.2.1.1 d.2.1.1 d.2.1.2.1 d.2.1.2.2.1 d.2.1.2.2.2.1 d.2.1.2.2.2.2.1 d.2.2.1.1 d.2.2.1.2.1 d.2.2.1.2.2.1 d.2.2.1.2.2.2.1 d.2.2.1.2.2.2.2.1 d.2.2.1.2.2.2.2.2.1 d.2.2.1.2.2.2.2.2.2.1 d.2.2.1.2.2.2.2.2.2.2.1 d.2.2.1.2.2.2.2.2.2.2.2.1 d.2.2.1.2.2.2.2.2.2.2.2.2.1 d.2.2.1.2.2.2.2.2.2.2.2.2.2.1
def T110_0q : OutD O110_0q → (Unit ⊕ Bool)
 | .inl d => .inl ()
 | .inr d => .inr d.1.1.1
def e110_0q : Elim (Unit ⊕ Bool) := fun base x _ K => match x with
 | .inl x => K (.exit 0) (stOf base X0_110_0q ((), ()))
 | .inr x => K .ret (stOf base X1_110_0q (((x, ()), ()), ()))
def L110_0q : LoopSum := ⟨I110_0q, O110_0q, (Unit ⊕ Bool), fun k d => c110_0q (core_isHeld_L0 k k) d, e110_0q⟩
def A110q : Notes := ⟨[], [(6, L110_0q)]⟩
theorem B110q : EnvB E110q := env_n mixed_orders ⟨F97q, F106q, F109q, trivial⟩
theorem st110_0q : StepOK E110q A110q 0 66 (loopAt (bodyOf Proofs.Tryz.f106) 0) I110_0q O110_0q T110_0q c110_0q core_isHeld_L0b := by intro k rec d; kernel_rfl
theorem lk110_0q : LoopOK E110q.P 1000 0 66 (loopAt (bodyOf Proofs.Tryz.f106) 0) L110_0q := loop_b B110q st110_0q core_isHeld_L0 e110_0q (by intro o R K; rcases o with o | o <;> rfl) loops0
def as110q : List AS := [.agg [.int .i64, .dat false y0q, .int .i64, .int .i64, .int .i64], .agg [.int .i64, .dat false y6q, .dat false (.sl (.int .i64)), .dat false (.int .i64), .dat false (.sl (.int .i64)), .dat false (.int .i64), .dat false (.sl (.int .i64)), .dat false y10q, .dat false (.int .i64), .int .i64, .bool]]
def rs110q : RS := .c (.bool)
def pk110q : Bool → RL rs110q.cells := fun x => (x, ())
def up110q : RL rs110q.cells → Bool := fun d => d.1
def s110q (k : Nat) (d : AD as110q) := core_isHeld k d.1 d.2.1 d.2.2.1 d.2.2.2.1 d.2.2.2.2.1 d.2.2.2.2.2.1 d.2.2.2.2.2.2.1 d.2.2.2.2.2.2.2.1 d.2.2.2.2.2.2.2.2.1 d.2.2.2.2.2.2.2.2.2.1 d.2.2.2.2.2.2.2.2.2.2.1 d.2.2.2.2.2.2.2.2.2.2.2.1 d.2.2.2.2.2.2.2.2.2.2.2.2.1 d.2.2.2.2.2.2.2.2.2.2.2.2.2.1 d.2.2.2.2.2.2.2.2.2.2.2.2.2.2.1 d.2.2.2.2.2.2.2.2.2.2.2.2.2.2.2.1
def R110q : Nat × Entry := (106, fun k nm args h => entry as110q rs110q (s110q k) pk110q nm args h)
theorem ev110q : EvOK E110q A110q 0 Proofs.Tryz.f106 as110q rs110q up110q s110q := by intro k d; kernel_rfl
theorem F110q : FnOK Proofs.Tryz.prog R110q := fn_b B110q ev110q (loops1 lk110_0q)

/-! ### giro/row.Find$1 -/
noncomputable def E111q : Env := ⟨Proofs.Tryz.prog, fun _ => false, sumsOf []⟩
def A111q : Notes := ⟨[], []⟩
theorem B111q : EnvB E111q := env_n mixed_orders trivial
def as111q : List AS := [.agg [.int .i64, .int .i64, .int .i64, .int .i64, .int .i64, .int .i64, .int .i64], .ptr [.int .i64]]
def rs111q : RS := .c (.bool)
def pk111q : Bool → RL rs111q.cells := fun x => (x, ())
def up111q : RL rs111q.cells → Bool := fun d => d.1
def s111q (k : Nat) (d : AD as111q) := row_Find_fn1 k d.1 d.2.1 d.2.2.1 d.2.2.2.1 d.2.2.2.2.1 d.2.2.2.2.2.1 d.2.2.2.2.2.2.1 d.2.2.2.2.2.2.2.1
def R111q : Nat × Entry := (96, fun k nm args h => entry as111q rs111q (s111q k) pk111q nm args h)
theorem ev111q : EvOK E111q A111q 0 Proofs.Tryz.f96 as111q rs111q up111q s111q := by intro k d; kernel_rfl
theorem F111q : FnOK Proofs.Tryz.prog R111q := fn_0 B111q ev111q

/-! ### slices.IndexFunc[[]giro/api.Pay,giro/api.Pay] -/
noncomputable def E112q : Env := ⟨Proofs.Tryz.prog, fun _ => false, sumsOf [R111q]⟩
def I112_0q : Spec := ⟨[(0, .c (.dat false y10q)), (1, .c (.lit (.fn 96 [1001000]))), (7, .c (.int .i64)), (8, .c (.int .i64))], [.robox [.int .i64]], []⟩
def X0_112_0q : Spec := ⟨[], [], []⟩
def X1_112_0q : Spec := ⟨[(4, .c (.int .i64))], [], []⟩
def O112_0q : List (Ex × Spec) := [(.exit 0, X0_112_0q), (.ret, X1_112_0q)]
def c112_0q (f : slices_IndexFunc_Pay__row_Find_fn1_L0T) (d : I112_0q.den) : Option (Unit ⊕ Int) := f d.1.1.1 d.1.2.2.1.1 d.1.2.2.2.1.1 d.2.1.1
def T112_0q : OutD O112_0q → (Unit ⊕ Int)
 | .inl d => .inl ()
 | .inr d => .inr d.1.1.1
def e112_0q : Elim (Unit ⊕ Int) := fun base x _ K => match x with
 | .inl x => K (.exit 0) (stOf base X0_112_0q ((), ()))
 | .inr x => K .ret (stOf base X1_112_0q (((x, ()), ()), ()))
def L112_0q : LoopSum := ⟨I112_0q, O112_0q, (Unit ⊕ Int), fun k d => c112_0q (slices_IndexFunc_Pay__row_Find_fn1_L0 k k) d, e112_0q⟩
def A112q : Notes := ⟨[], [(2, L112_0q)]⟩
theorem B112q : EnvB E112q := env_n mixed_orders ⟨F111q, trivial⟩
theorem st112_0q : StepOK E112q A112q 0 19 (loopAt (bodyOf Proofs.Tryz.f95) 0) I112_0q O112_0q T112_0q c112_0q slices_IndexFunc_Pay__row_Find_fn1_L0b := by intro k rec d; kernel_rfl
theorem lk112_0q : LoopOK E112q.P 1000 0 19 (loopAt (bodyOf Proofs.Tryz.f95) 0) L112_0q := loop_b B112q st112_0q slices_IndexFunc_Pay__row_Find_fn1_L0 e112_0q (by intro o R K; rcases o with o | o <;> rfl) loops0
def as112q : List AS := [.c (.dat false y10q), .fn 96 [[.int .i64]]]
def rs112q : RS := .c (.int .i64)
def pk112q : Int → RL rs112q.cells := fun x => (x, ())
def up112q : RL rs112q.cells → Int := fun d => d.1
def s112q (k : Nat) (d : AD as112q) := slices_IndexFunc_Pay__row_Find_fn1 k d.1 d.2.1
def R112q : Nat × Entry := (95, fun k nm args h => entry as112q rs112q (s112q k) pk112q nm args h)
theorem ev112q : EvOK E112q A112q 0 Proofs.Tryz.f95 as112q rs112q up112q s112q := by intro k d; kernel_rfl
theorem F112q : FnOK Proofs.Tryz.prog R112q := fn_b B112q ev112q (loops1 lk112_0q)

/-! ### giro/row.Find -/
noncomputable def E113q : Env := ⟨Proofs.Tryz.prog, fun _ => false, sumsOf [R112q]⟩
def A113q : Notes := ⟨[], []⟩
theorem B113q : EnvB E113q := env_n mixed_orders ⟨F112q, trivial⟩
def as113q : List AS := [.c (.dat false y10q), .c (.int .i64)]
def rs113q : RS := .c (.int .i64)
def pk113q : Int → RL rs113q.cells := fun x => (x, ())
def up113q : RL rs113q.cells → Int := fun d => d.1
def s113q (k : Nat) (d : AD as113q) := row_Find k d.1 d.2.1
def R113q : Nat × Entry := (55, fun k nm args h => entry as113q rs113q (s113q k) pk113q nm args h)
theorem ev113q : EvOK E113q A113q 0 Proofs.Tryz.f55 as113q rs113q up113q s113q := by intro k d; kernel_rfl
theorem F113q : FnOK Proofs.Tryz.prog R113q := fn_0 B113q ev113q

/-! ### cmp.isNaN[int] -/
noncomputable def E114q : Env := ⟨Proofs.Tryz.prog, fun _ => false, sumsOf []⟩
def A114q : Notes := ⟨[], []⟩
theorem B114q : EnvB E114q := env_n mixed_orders trivial
def as114q : List AS := [.c (.int .i64)]
def rs114q : RS := .c (.bool)
def pk114q : Bool → RL rs114q.cells := fun x => (x, ())
def up114q : RL rs114q.cells → Bool := fun d => d.1
def s114q (k : Nat) (d : AD as114q) := cmp_isNaN_int k d.1
def R114q : Nat × Entry := (204, fun k nm args h => entry as114q rs114q (s114q k) pk114q nm args h)
theorem ev114q : EvOK E114q A114q 0 Proofs.Tryz.f204 as114q rs114q up114q s114q := by intro k d; kernel_rfl
theorem F114q : FnOK Proofs.Tryz.prog R114q := fn_0 B114q ev114q

/-! ### cmp.Compare[int] -/
noncomputable def E115q : Env := ⟨Proofs.Tryz.prog, fun _ => false, sumsOf [R114q]⟩
def A115q : Notes := ⟨[], []⟩
theorem B115q : EnvB E115q := env_n mixed_orders ⟨F114q, trivial⟩
def as115q : List AS := [.c (.int .i64), .c (.int .i64)]
def rs115q : RS := .c (.int .i64)
def pk115q : Int → RL rs115q.cells := fun x => (x, ())
def up115q : RL rs115q.cells → Int := fun d => d.1
def s115q (k : Nat) (d : AD as115q) := cmp_Compare_int k d.1 d.2.1
def R115q : Nat × Entry := (189, fun k nm args h => entry as115q rs115q (s115q k) pk115q nm args h)
theorem ev115q : EvOK E115q A115q 0 Proofs.Tryz.f189 as115q rs115q up115q s115q := by intro k d; kernel_rfl
theorem F115q : FnOK Proofs.Tryz.prog R115q := fn_0 B115q ev115q

/-! ### cmp.Or[int] -/
noncomputable def E116q : Env := ⟨Proofs.Tryz.prog, fun _ => false, sumsOf []⟩
def I116_0q : Spec := ⟨[(3, .c (.int .i64)), (6, .c (.dat false (.int .i64))), (7, .c (.int .i64)), (8, .c (.int .i64))], [], []⟩
def X0_116_0q : Spec := ⟨[(3, .c (.int .i64))], [], []⟩
def X1_116_0q : Spec := ⟨[(2, .c (.int .i64))], [], []⟩
def O116_0q : List (Ex × Spec) := [(.exit 0, X0_116_0q), (.ret, X1_116_0q)]
def c116_0q (f : cmp_Or_int_L0T) (d : I116_0q.den) : Option (Int ⊕ Int) := f d.1.1.1 d.1.2.1.1 d.1.2.2.1.1 d.1.2.2.2.1.1
def T116_0q : OutD O116_0q → (Int ⊕ Int)
 | .inl d => .inl d.1.1.1
 | .inr d => .inr d.1.1.1
def e116_0q : Elim (Int ⊕ Int) := fun base x _ K => match x with
 | .inl x => K (.exit 0) (stOf base X0_116_0q (((x, ()), ()), ()))
 | .inr x => K .ret (stOf base X1_116_0q (((x, ()), ()), ()))
def L116_0q : LoopSum := ⟨I116_0q, O116_0q, (Int ⊕ Int), fun k d => c116_0q (cmp_Or_int_L0 k k) d, e116_0q⟩
def A116q : Notes := ⟨[], [(3, L116_0q)]⟩
theorem B116q : EnvB E116q := env_n mixed_orders trivial
theorem st116_0q : StepOK E116q A116q 0 18 (loopAt (bodyOf Proofs.Tryz.f188) 0) I116_0q O116_0q T116_0q c116_0q cmp_Or_int_L0b := by intro k rec d; kernel_rfl
theorem lk116_0q : LoopOK E116q.P 1000 0 18 (loopAt (bodyOf Proofs.Tryz.f188) 0) L116_0q := loop_b B116q st116_0q cmp_Or_int_L0 e116_0q (by intro o R K; rcases o with o | o <;> rfl) loops0
def as116q : List AS := [.c (.dat false (.int .i64))]
def rs116q : RS := .c (.int .i64)
def pk116q : Int → RL rs116q.cells := fun x => (x, ())
def up116q : RL rs116q.cells → Int := fun d => d.1
def s116q (k : Nat) (d : AD as116q) := cmp_Or_int k d.1
def R116q : Nat × Entry := (188, fun k nm args h => entry as116q rs116q (s116q k) pk116q nm args h)
theorem ev116q : EvOK E116q A116q 0 Proofs.Tryz.f188 as116q rs116q up116q s116q := by intro k d; kernel_rfl
theorem F116q : FnOK Proofs.Tryz.prog R116q := fn_b B116q ev116q (loops1 lk116_0q)

/-! ### giro/row.order -/
noncomputable def E117q : Env := ⟨Proofs.Tryz.prog, fun _ => false, sumsOf [R115q, R116q]⟩
def A117q : Notes := ⟨[], []⟩
theorem B117q : EnvB E117q := env_n mixed_orders ⟨F115q, F116q, trivial⟩
def as117q : List AS := [.agg [.int .i64, .int .i64, .int .i64, .int .i64, .int .i64, .int .i64, .int .i64], .agg [.int .i64, .int .i64, .int .i64, .int .i64, .int .i64, .int .i64, .int .i64]]
def rs117q : RS := .c (.int .i64)
def pk117q : Int → RL rs117q.cells := fun x => (x, ())
def up117q : RL rs117q.cells → Int := fun d => d.1
def s117q (k : Nat) (d : AD as117q) := row_order k d.1 d.2.1 d.2.2.1 d.2.2.2.1 d.2.2.2.2.1 d.2.2.2.2.2.1 d.2.2.2.2.2.2.1 d.2.2.2.2.2.2.2.1 d.2.2.2.2.2.2.2.2.1 d.2.2.2.2.2.2.2.2.2.1 d.2.2.2.2.2.2.2.2.2.2.1 d.2.2.2.2.2.2.2.2.2.2.2.1 d.2.2.2.2.2.2.2.2.2.2.2.2.1 d.2.2.2.2.2.2.2.2.2.2.2.2.2.1
def R117q : Nat × Entry := (161, fun k nm args h => entry as117q rs117q (s117q k) pk117q nm args h)
theorem ev117q : EvOK E117q A117q 0 Proofs.Tryz.f161 as117q rs117q up117q s117q := by intro k d; kernel_rfl
theorem F117q : FnOK Proofs.Tryz.prog R117q := fn_0 B117q ev117q

/-! ### slices.IsSortedFunc[[]giro/api.Pay,giro/api.Pay] -/
noncomputable def E118q : Env := ⟨Proofs.Tryz.prog, fun _ => false, sumsOf [R117q]⟩
def I118_0q : Spec := ⟨[(0, .c (.dat false y10q)), (1, .c (.lit (.fn 161 []))), (5, .c (.int .i64))], [], []⟩
def X0_118_0q : Spec := ⟨[], [], []⟩
def X1_118_0q : Spec := ⟨[(4, .c (.bool))], [], []⟩
def O118_0q : List (Ex × Spec) := [(.exit 0, X0_118_0q), (.ret, X1_118_0q)]
def c118_0q (f : slices_IsSortedFunc_Pay__row_order_L0T) (d : I118_0q.den) : Option (Unit ⊕ Bool) := f d.1.1.1 d.1.2.2.1.1
def T118_0q : OutD O118_0q → (Unit ⊕ Bool)
 | .inl d => .inl ()
 | .inr d => .inr d.1.1.1
def e118_0q : Elim (Unit ⊕ Bool) := fun base x _ K => match x with
 | .inl x => K (.exit 0) (stOf base X0_118_0q ((), ()))
 | .inr x => K .ret (stOf base X1_118_0q (((x, ()), ()), ()))
def L118_0q : LoopSum := ⟨I118_0q, O118_0q, (Unit ⊕ Bool), fun k d => c118_0q (slices_IsSortedFunc_Pay__row_order_L0 k k) d, e118_0q⟩
def A118q : Notes := ⟨[], [(2, L118_0q)]⟩
theorem B118q : EnvB E118q := env_n mixed_orders ⟨F117q, trivial⟩
theorem st118_0q : StepOK E118q A118q 0 25 (loopAt (bodyOf Proofs.Tryz.f182) 0) I118_0q O118_0q T118_0q c118_0q slices_IsSortedFunc_Pay__row_order_L0b := by intro k rec d; kernel_rfl
theorem lk118_0q : LoopOK E118q.P 1000 0 25 (loopAt (bodyOf Proofs.Tryz.f182) 0) L118_0q := loop_b B118q st118_0q slices_IsSortedFunc_Pay__row_order_L0 e118_0q (by intro o R K; rcases o with o | o <;> rfl) loops0
def as118q : List AS := [.c (.dat false y10q), .c (.fn 161)]
def rs118q : RS := .c (.bool)
def pk118q : Bool → RL rs118q.cells := fun x => (x, ())
def up118q : RL rs118q.cells → Bool := fun d => d.1
def s118q (k : Nat) (d : AD as118q) := slices_IsSortedFunc_Pay__row_order k d.1
def R118q : Nat × Entry := (182, fun k nm args h => entry as118q rs118q (s118q k) pk118q nm args h)
theorem ev118q : EvOK E118q A118q 0 Proofs.Tryz.f182 as118q rs118q up118q s118q := by intro k d; kernel_rfl
theorem F118q : FnOK Proofs.Tryz.prog R118q := fn_b B118q ev118q (loops1 lk118_0q)

/-! ### giro/row.Is -/
noncomputable def E119q : Env := ⟨Proofs.Tryz.prog, fun _ => false, sumsOf [R113q, R118q]⟩
def I119_0q : Spec := ⟨[(0, .c (.dat false y10q)), (5, .c (.dat false y10q)), (6, .c (.int .i64)), (7, .c (.int .i64))], [], []⟩
def X0_119_0q : Spec := ⟨[(0, .c (.dat false y10q))], [], []⟩
def X1_119_0q : Spec := ⟨[(2, .c (.bool))], [], []⟩
def O119_0q : List (Ex × Spec) := [(.exit 0, X0_119_0q), (.ret, X1_119_0q)]
def c119_0q (f : row_Is_L0T) (d : I119_0q.den) : Option row_Is_L0X := f d.1.1.1 d.1.2.1.1 d.1.2.2.1.1 d.1.2.2.2.1.1
def T119_0q : OutD O119_0q → row_Is_L0X
 | .inl d => .inl d.1.1.1
 | .inr d => .inr d.1.1.1
def e119_0q : Elim row_Is_L0X := fun base x _ K => match x with
 | .inl x => K (.exit 0) (stOf base X0_119_0q (((x, ()), ()), ()))
 | .inr x => K .ret (stOf base X1_119_0q (((x, ()), ()), ()))
def L119_0q : LoopSum := ⟨I119_0q, O119_0q, row_Is_L0X, fun k d => c119_0q (row_Is_L0 k k) d, e119_0q⟩
def A119q : Notes := ⟨[], [(2, L119_0q)]⟩
theorem B119q : EnvB E119q := env_n mixed_orders ⟨F113q, F118q, trivial⟩
theorem st119_0q : StepOK E119q A119q 0 26 (loopAt (bodyOf Proofs.Tryz.f155) 0) I119_0q O119_0q T119_0q c119_0q row_Is_L0b := by intro k rec d; kernel_rfl
theorem lk119_0q : LoopOK E119q.P 1000 0 26 (loopAt (bodyOf Proofs.Tryz.f155) 0) L119_0q := loop_b B119q st119_0q row_Is_L0 e119_0q (by intro o R K; rcases o with o | o <;> rfl) loops0
def as119q : List AS := [.c (.dat false y10q)]
def rs119q : RS := .c (.bool)
def pk119q : Bool → RL rs119q.cells := fun x => (x, ())
def up119q : RL rs119q.cells → Bool := fun d => d.1
def s119q (k : Nat) (d : AD as119q) := row_Is k d.1
def R119q : Nat × Entry := (155, fun k nm args h => entry as119q rs119q (s119q k) pk119q nm args h)
theorem ev119q : EvOK E119q A119q 0 Proofs.Tryz.f155 as119q rs119q up119q s119q := by intro k d; kernel_rfl
theorem F119q : FnOK Proofs.Tryz.prog R119q := fn_b B119q ev119q (loops1 lk119_0q)

/-! ### giro/ids.Is -/
noncomputable def E120q : Env := ⟨Proofs.Tryz.prog, fun _ => false, sumsOf []⟩
def I120_0q : Spec := ⟨[(0, .c (.dat false (.int .i64))), (3, .c (.int .i64)), (6, .c (.dat false (.int .i64))), (7, .c (.int .i64)), (8, .c (.int .i64))], [], []⟩
def X0_120_0q : Spec := ⟨[(0, .c (.dat false (.int .i64)))], [], []⟩
def X1_120_0q : Spec := ⟨[(2, .c (.bool))], [], []⟩
def O120_0q : List (Ex × Spec) := [(.exit 0, X0_120_0q), (.ret, X1_120_0q)]
def c120_0q (f : ids_Is_L0T) (d : I120_0q.den) : Option ((List Int) ⊕ Bool) := f d.1.1.1 d.1.2.1.1 d.1.2.2.1.1 d.1.2.2.2.1.1 d.1.2.2.2.2.1.1
def T120_0q : OutD O120_0q → ((List Int) ⊕ Bool)
 | .inl d => .inl d.1.1.1
 | .inr d => .inr d.1.1.1
def e120_0q : Elim ((List Int) ⊕ Bool) := fun base x _ K => match x with
 | .inl x => K (.exit 0) (stOf base X0_120_0q (((x, ()), ()), ()))
 | .inr x => K .ret (stOf base X1_120_0q (((x, ()), ()), ()))
def L120_0q : LoopSum := ⟨I120_0q, O120_0q, ((List Int) ⊕ Bool), fun k d => c120_0q (ids_Is_L0 k k) d, e120_0q⟩
def A120q : Notes := ⟨[], [(3, L120_0q)]⟩
theorem B120q : EnvB E120q := env_n mixed_orders trivial
theorem st120_0q : StepOK E120q A120q 0 20 (loopAt (bodyOf Proofs.Tryz.f156) 0) I120_0q O120_0q T120_0q c120_0q ids_Is_L0b := by intro k rec d; kernel_rfl
theorem lk120_0q : LoopOK E120q.P 1000 0 20 (loopAt (bodyOf Proofs.Tryz.f156) 0) L120_0q := loop_b B120q st120_0q ids_Is_L0 e120_0q (by intro o R K; rcases o with o | o <;> rfl) loops0
def as120q : List AS := [.c (.dat false (.int .i64))]
def rs120q : RS := .c (.bool)
def pk120q : Bool → RL rs120q.cells := fun x => (x, ())
def up120q : RL rs120q.cells → Bool := fun d => d.1
def s120q (k : Nat) (d : AD as120q) := ids_Is k d.1
def R120q : Nat × Entry := (156, fun k nm args h => entry as120q rs120q (s120q k) pk120q nm args h)
theorem ev120q : EvOK E120q A120q 0 Proofs.Tryz.f156 as120q rs120q up120q s120q := by intro k d; kernel_rfl
theorem F120q : FnOK Proofs.Tryz.prog R120q := fn_b B120q ev120q (loops1 lk120_0q)

/-! ### cmp.isNaN[int64] -/
noncomputable def E121q : Env := ⟨Proofs.Tryz.prog, fun _ => false, sumsOf []⟩
def A121q : Notes := ⟨[], []⟩
theorem B121q : EnvB E121q := env_n mixed_orders trivial
def as121q : List AS := [.c (.int .i64)]
def rs121q : RS := .c (.bool)
def pk121q : Bool → RL rs121q.cells := fun x => (x, ())
def up121q : RL rs121q.cells → Bool := fun d => d.1
def s121q (k : Nat) (d : AD as121q) := cmp_isNaN_int64 k d.1
def R121q : Nat × Entry := (202, fun k nm args h => entry as121q rs121q (s121q k) pk121q nm args h)
theorem ev121q : EvOK E121q A121q 0 Proofs.Tryz.f202 as121q rs121q up121q s121q := by intro k d; kernel_rfl
theorem F121q : FnOK Proofs.Tryz.prog R121q := fn_0 B121q ev121q

/-! ### cmp.Less[int64] -/
noncomputable def E122q : Env := ⟨Proofs.Tryz.prog, fun _ => false, sumsOf [R121q]⟩
def A122q : Notes := ⟨[], []⟩
theorem B122q : EnvB E122q := env_n mixed_orders ⟨F121q, trivial⟩
def as122q : List AS := [.c (.int .i64), .c (.int .i64)]
def rs122q : RS := .c (.bool)
def pk122q : Bool → RL rs122q.cells := fun x => (x, ())
def up122q : RL rs122q.cells → Bool := fun d => d.1
def s122q (k : Nat) (d : AD as122q) := cmp_Less_int64 k d.1 d.2.1
def R122q : Nat × Entry := (184, fun k nm args h => entry as122q rs122q (s122q k) pk122q nm args h)
theorem ev122q : EvOK E122q A122q 0 Proofs.Tryz.f184 as122q rs122q up122q s122q := by intro k d; kernel_rfl
theorem F122q : FnOK Proofs.Tryz.prog R122q := fn_0 B122q ev122q

/-! ### slices.isNaN[int64] -/
noncomputable def E123q : Env := ⟨Proofs.Tryz.prog, fun _ => false, sumsOf []⟩
def A123q : Notes := ⟨[], []⟩
theorem B123q : EnvB E123q := env_n mixed_orders trivial
def as123q : List AS := [.c (.int .i64)]
def rs123q : RS := .c (.bool)
def pk123q : Bool → RL rs123q.cells := fun x => (x, ())
def up123q : RL rs123q.cells → Bool := fun d => d.1
def s123q (k : Nat) (d : AD as123q) := slices_isNaN_int64 k d.1
def R123q : Nat × Entry := (185, fun k nm args h => entry as123q rs123q (s123q k) pk123q nm args h)
theorem ev123q : EvOK E123q A123q 0 Proofs.Tryz.f185 as123q rs123q up123q s123q := by intro k d; kernel_rfl
theorem F123q : FnOK Proofs.Tryz.prog R123q := fn_0 B123q ev123q

/-! ### slices.BinarySearch[[]int64,int64] -/
noncomputable def E124q : Env := ⟨Proofs.Tryz.prog, fun _ => false, sumsOf [R122q, R123q]⟩
def I124_0q : Spec := ⟨[(0, .c (.dat false (.int .i64))), (1, .c (.int .i64)), (6, .c (.int .i64)), (7, .c (.int .i64)), (8, .c (.int .i64))], [], []⟩
def X0_124_0q : Spec := ⟨[(0, .c (.dat false (.int .i64))), (1, .c (.int .i64)), (6, .c (.int .i64)), (7, .c (.int .i64))], [], []⟩
def O124_0q : List (Ex × Spec) := [(.exit 0, X0_124_0q)]
def c124_0q (f : slices_BinarySearch_int64_L0T) (d : I124_0q.den) : Option slices_BinarySearch_int64_L0X := f d.1.1.1 d.1.2.1.1 d.1.2.2.1.1 d.1.2.2.2.1.1 d.1.2.2.2.2.1.1
def T124_0q : OutD O124_0q → slices_BinarySearch_int64_L0X := fun d => (d.1.1.1, d.1.2.1.1, d.1.2.2.1.1, d.1.2.2.2.1.1)
def e124_0q : Elim slices_BinarySearch_int64_L0X := fun base x _ K => K (.exit 0) (stOf base X0_124_0q (((x.1, ()), (x.2.1, ()), (x.2.2.1, ()), (x.2.2.2, ()), ()), ()))
def L124_0q : LoopSum := ⟨I124_0q, O124_0q, slices_BinarySearch_int64_L0X, fun k d => c124_0q (slices_BinarySearch_int64_L0 k k) d, e124_0q⟩
def A124q : Notes := ⟨[], [(3, L124_0q)]⟩
theorem B124q : EnvB E124q := env_n mixed_orders ⟨F122q, F123q, trivial⟩
theorem st124_0q : StepOK E124q A124q 0 54 (loopAt (bodyOf Proofs.Tryz.f158) 0) I124_0q O124_0q T124_0q c124_0q slices_BinarySearch_int64_L0b := by intro k rec d; kernel_rfl
theorem lk124_0q : LoopOK E124q.P 1000 0 54 (loopAt (bodyOf Proofs.Tryz.f158) 0) L124_0q := loop_b B124q st124_0q slices_BinarySearch_int64_L0 e124_0q (fun _ _ _ => rfl) loops0
def as124q : List AS := [.c (.dat false (.int .i64)), .c (.int .i64)]
def rs124q : RS := .tup [(false, [.int .i64]), (false, [.bool])]
def pk124q : Int × Bool → RL rs124q.cells := fun x => (x.1, x.2, ())
def up124q : RL rs124q.cells → Int × Bool := fun d => (d.1, d.2.1)
def s124q (k : Nat) (d : AD as124q) := slices_BinarySearch_int64 k d.1 d.2.1
def R124q : Nat × Entry := (158, fun k nm args h => entry as124q rs124q (s124q k) pk124q nm args h)
theorem ev124q : EvOK E124q A124q 0 Proofs.Tryz.f158 as124q rs124q up124q s124q := by intro k d; kernel_rfl
theorem F124q : FnOK Proofs.Tryz.prog R124q := fn_b B124q ev124q (loops1 lk124_0q)

/-! ### giro/ids.Has -/
noncomputable def E125q : Env := ⟨Proofs.Tryz.prog, fun _ => false, sumsOf [R124q]⟩
def A125q : Notes := ⟨[], []⟩
theorem B125q : EnvB E125q := env_n mixed_orders ⟨F124q, trivial⟩
def as125q : List AS := [.c (.dat false (.int .i64)), .c (.int .i64)]
def rs125q : RS := .c (.bool)
def pk125q : Bool → RL rs125q.cells := fun x => (x, ())
def up125q : RL rs125q.cells → Bool := fun d => d.1
def s125q (k : Nat) (d : AD as125q) := ids_Has k d.1 d.2.1
def R125q : Nat × Entry := (154, fun k nm args h => entry as125q rs125q (s125q k) pk125q nm args h)
theorem ev125q : EvOK E125q A125q 0 Proofs.Tryz.f154 as125q rs125q up125q s125q := by intro k d; kernel_rfl
theorem F125q : FnOK Proofs.Tryz.prog R125q := fn_0 B125q ev125q

/-! ### giro/core.isWaiting$1 -/
noncomputable def E126q : Env := ⟨Proofs.Tryz.prog, fun _ => false, sumsOf [R17q, R94q, R125q]⟩
def A126q : Notes := ⟨[], []⟩
theorem B126q : EnvB E126q := env_n mixed_orders ⟨F17q, F94q, F125q, trivial⟩
def as126q : List AS := [.agg [.int .i64, .int .i64, .int .i64, .int .i64, .int .i64, .int .i64, .int .i64], .ptr [.int .i64, .dat false y6q, .dat false (.sl (.int .i64)), .dat false (.int .i64), .dat false (.sl (.int .i64)), .dat false (.int .i64), .dat false (.sl (.int .i64)), .dat false y10q, .dat false (.int .i64), .int .i64, .bool]]
def rs126q : RS := .c (.bool)
def pk126q : Bool → RL rs126q.cells := fun x => (x, ())
def up126q : RL rs126q.cells → Bool := fun d => d.1
def s126q (k : Nat) (d : AD as126q) := core_isWaiting_fn1 k d.1 d.2.1 d.2.2.1 d.2.2.2.1 d.2.2.2.2.1 d.2.2.2.2.2.1 d.2.2.2.2.2.2.1 d.2.2.2.2.2.2.2.1 d.2.2.2.2.2.2.2.2.1 d.2.2.2.2.2.2.2.2.2.1 d.2.2.2.2.2.2.2.2.2.2.1 d.2.2.2.2.2.2.2.2.2.2.2.1 d.2.2.2.2.2.2.2.2.2.2.2.2.1 d.2.2.2.2.2.2.2.2.2.2.2.2.2.1 d.2.2.2.2.2.2.2.2.2.2.2.2.2.2.1 d.2.2.2.2.2.2.2.2.2.2.2.2.2.2.2.1 d.2.2.2.2.2.2.2.2.2.2.2.2.2.2.2.2.1 d.2.2.2.2.2.2.2.2.2.2.2.2.2.2.2.2.2.1
def R126q : Nat × Entry := (153, fun k nm args h => entry as126q rs126q (s126q k) pk126q nm args h)
theorem ev126q : EvOK E126q A126q 0 Proofs.Tryz.f153 as126q rs126q up126q s126q := by intro k d; kernel_rfl
theorem F126q : FnOK Proofs.Tryz.prog R126q := fn_0 B126q ev126q

/-! ### slices.IndexFunc[[]giro/api.Pay,giro/api.Pay] -/
noncomputable def E127q : Env := ⟨Proofs.Tryz.prog, fun _ => false, sumsOf [R126q]⟩
def I127_0q : Spec := ⟨[(0, .c (.dat false y10q)), (1, .c (.lit (.fn 153 [1001000]))), (7, .c (.int .i64)), (8, .c (.int .i64))], [.robox [.int .i64, .dat false y6q, .dat false (.sl (.int .i64)), .dat false (.int .i64), .dat false (.sl (.int .i64)), .dat false (.int .i64), .dat false (.sl (.int .i64)), .dat false y10q, .dat false (.int .i64), .int .i64, .bool]], []⟩
def X0_127_0q : Spec := ⟨[], [], []⟩
def X1_127_0q : Spec := ⟨[(4, .c (.int .i64))], [], []⟩
def O127_0q : List (Ex × Spec) := [(.exit 0, X0_127_0q), (.ret, X1_127_0q)]
def c127_0q (f : slices_IndexFunc_Pay__core_isWaiting_fn1_L0T) (d : I127_0q.den) : Option (Unit ⊕ Int) := f d.1.1.1 d.1.2.2.1.1 d.1.2.2.2.1.1 d.2.1.1 d.2.1.2.1 d.2.1.2.2.1 d.2.1.2.2.2.1 d.2.1.2.2.2.2.1 d.2.1.2.2.2.2.2.1 d.2.1.2.2.2.2.2.2.1 d.2.1.2.2.2.2.2.2.2.1 d.2.1.2.2.2.2.2.2.2.2.1 d.2.1.2.2.2.2.2.2.2.2.2.1 d.2.1.2.2.2.2.2.2.2.2.2.2.1
def T127_0q : OutD O127_0q → (Unit ⊕ Int)
 | .inl d => .inl ()
 | .inr d => .inr d.1.1.1
def e127_0q : Elim (Unit ⊕ Int) := fun base x _ K => match x with
 | .inl x => K (.exit 0) (stOf base X0_127_0q ((), ()))
 | .inr x => K .ret (stOf base X1_127_0q (((x, ()), ()), ()))
def L127_0q : LoopSum := ⟨I127_0q, O127_0q, (Unit ⊕ Int), fun k d => c127_0q (slices_IndexFunc_Pay__core_isWaiting_fn1_L0 k k) d, e127_0q⟩
def A127q : Notes := ⟨[], [(2, L127_0q)]⟩
theorem B127q : EnvB E127q := env_n mixed_orders ⟨F126q, trivial⟩
theorem st127_0q : StepOK E127q A127q 0 19 (loopAt (bodyOf Proofs.Tryz.f95) 0) I127_0q O127_0q T127_0q c127_0q slices_IndexFunc_Pay__core_isWaiting_fn1_L0b := by intro k rec d; kernel_rfl
theorem lk127_0q : LoopOK E127q.P 1000 0 19 (loopAt (bodyOf Proofs.Tryz.f95) 0) L127_0q := loop_b B127q st127_0q slices_IndexFunc_Pay__core_isWaiting_fn1_L0 e127_0q (by intro o R K; rcases o with o | o <;> rfl) loops0
def as127q : List AS := [.c (.dat false y10q), .fn 153 [[.int .i64, .dat false y6q, .dat false (.sl (.int .i64)), .dat false (.int .i64), .dat false (.sl (.int .i64)), .dat false (.int .i64), .dat false (.sl (.int .i64)), .dat false y10q, .dat false (.int .i64), .int .i64, .bool]]]
def rs127q : RS := .c (.int .i64)
def pk127q : Int → RL rs127q.cells := fun x => (x, ())
def up127q : RL rs127q.cells → Int := fun d => d.1
def s127q (k : Nat) (d : AD as127q) := slices_IndexFunc_Pay__core_isWaiting_fn1 k d.1 d.2.1 d.2.2.1 d.2.2.2.1 d.2.2.2.2.1 d.2.2.2.2.2.1 d.2.2.2.2.2.2.1 d.2.2.2.2.2.2.2.1 d.2.2.2.2.2.2.2.2.1 d.2.2.2.2.2.2.2.2.2.1 d.2.2.2.2.2.2.2.2.2.2.1 d.2.2.2.2.2.2.2.2.2.2.2.1
def R127q : Nat × Entry := (95, fun k nm args h => entry as127q rs127q (s127q k) pk127q nm args h)
theorem ev127q : EvOK E127q A127q 0 Proofs.Tryz.f95 as127q rs127q up127q s127q := by intro k d; kernel_rfl
theorem F127q : FnOK Proofs.Tryz.prog R127q := fn_b B127q ev127q (loops1 lk127_0q)

/-! ### slices.ContainsFunc[[]giro/api.Pay,giro/api.Pay] -/
noncomputable def E128q : Env := ⟨Proofs.Tryz.prog, fun _ => false, sumsOf [R127q]⟩
def A128q : Notes := ⟨[], []⟩
theorem B128q : EnvB E128q := env_n mixed_orders ⟨F127q, trivial⟩
def as128q : List AS := [.c (.dat false y10q), .fn 153 [[.int .i64, .dat false y6q, .dat false (.sl (.int .i64)), .dat false (.int .i64), .dat false (.sl (.int .i64)), .dat false (.int .i64), .dat false (.sl (.int .i64)), .dat false y10q, .dat false (.int .i64), .int .i64, .bool]]]
def rs128q : RS := .c (.bool)
def pk128q : Bool → RL rs128q.cells := fun x => (x, ())
def up128q : RL rs128q.cells → Bool := fun d => d.1
def s128q (k : Nat) (d : AD as128q) := slices_ContainsFunc_Pay__core_isWaiting_fn1 k d.1 d.2.1 d.2.2.1 d.2.2.2.1 d.2.2.2.2.1 d.2.2.2.2.2.1 d.2.2.2.2.2.2.1 d.2.2.2.2.2.2.2.1 d.2.2.2.2.2.2.2.2.1 d.2.2.2.2.2.2.2.2.2.1 d.2.2.2.2.2.2.2.2.2.2.1 d.2.2.2.2.2.2.2.2.2.2.2.1
def R128q : Nat × Entry := (136, fun k nm args h => entry as128q rs128q (s128q k) pk128q nm args h)
theorem ev128q : EvOK E128q A128q 0 Proofs.Tryz.f136 as128q rs128q up128q s128q := by intro k d; kernel_rfl
theorem F128q : FnOK Proofs.Tryz.prog R128q := fn_0 B128q ev128q

/-! ### giro/core.isWaiting -/
noncomputable def E129q : Env := ⟨Proofs.Tryz.prog, fun _ => false, sumsOf [R119q, R120q, R128q]⟩
def A129q : Notes := ⟨[], []⟩
theorem B129q : EnvB E129q := env_n mixed_orders ⟨F119q, F120q, F128q, trivial⟩
def as129q : List AS := [.agg [.int .i64, .dat false y6q, .dat false (.sl (.int .i64)), .dat false (.int .i64), .dat false (.sl (.int .i64)), .dat false (.int .i64), .dat false (.sl (.int .i64)), .dat false y10q, .dat false (.int .i64), .int .i64, .bool]]
def rs129q : RS := .c (.bool)
def pk129q : Bool → RL rs129q.cells := fun x => (x, ())
def up129q : RL rs129q.cells → Bool := fun d => d.1
def s129q (k : Nat) (d : AD as129q) := core_isWaiting k d.1 d.2.1 d.2.2.1 d.2.2.2.1 d.2.2.2.2.1 d.2.2.2.2.2.1 d.2.2.2.2.2.2.1 d.2.2.2.2.2.2.2.1 d.2.2.2.2.2.2.2.2.1 d.2.2.2.2.2.2.2.2.2.1 d.2.2.2.2.2.2.2.2.2.2.1
def R129q : Nat × Entry := (107, fun k nm args h => entry as129q rs129q (s129q k) pk129q nm args h)
theorem ev129q : EvOK E129q A129q 0 Proofs.Tryz.f107 as129q rs129q up129q s129q := by intro k d; kernel_rfl
theorem F129q : FnOK Proofs.Tryz.prog R129q := fn_0 B129q ev129q

/-! ### giro/day.Closes -/
noncomputable def E130q : Env := ⟨Proofs.Tryz.prog, fun _ => false, sumsOf []⟩
def A130q : Notes := ⟨[], []⟩
theorem B130q : EnvB E130q := env_n mixed_orders trivial
def as130q : List AS := [.agg [.int .i64, .dat false y0q, .int .i64, .int .i64, .int .i64], .c (.int .i64)]
def rs130q : RS := .c (.bool)
def pk130q : Bool → RL rs130q.cells := fun x => (x, ())
def up130q : RL rs130q.cells → Bool := fun d => d.1
def s130q (k : Nat) (d : AD as130q) := day_Closes k d.1 d.2.1 d.2.2.1 d.2.2.2.1 d.2.2.2.2.1 d.2.2.2.2.2.1
def R130q : Nat × Entry := (88, fun k nm args h => entry as130q rs130q (s130q k) pk130q nm args h)
theorem ev130q : EvOK E130q A130q 0 Proofs.Tryz.f88 as130q rs130q up130q s130q := by intro k d; kernel_rfl
theorem F130q : FnOK Proofs.Tryz.prog R130q := fn_0 B130q ev130q

/-! ### giro/core.Is -/
noncomputable def E131q : Env := ⟨Proofs.Tryz.prog, fun _ => false, sumsOf [R94q, R62q, R110q, R129q, R105q, R130q]⟩
def I131_0q : Spec := ⟨[(2, .c (.lit (.ptr 1001000 0))), (3, .c (.lit (.ptr 1001001 0))), (5, .c (.lit (.osl 1001002 none))), (44, .c (.dat false y6q)), (45, .c (.int .i64)), (46, .c (.int .i64))], [.box true [.int .i64, .dat false y0q, .int .i64, .int .i64, .int .i64], .box true [.int .i64, .dat false y6q, .dat false (.sl (.int .i64)), .dat false (.int .i64), .dat false (.sl (.int .i64)), .dat false (.int .i64), .dat false (.sl (.int .i64)), .dat false y10q, .dat false (.int .i64), .int .i64, .bool], .arr true (.int .i64)], [(5, none, (.int .i64), false)]⟩
def X0_131_0q : Spec := ⟨[(2, .c (.lit (.ptr 1001000 0))), (3, .c (.lit (.ptr 1001001 0))), (5, .c (.lit (.osl 1001002 none)))], [.box true [.int .i64, .dat false y0q, .int .i64, .int .i64, .int .i64], .box true [.int .i64, .dat false y6q, .dat false (.sl (.int .i64)), .dat false (.int .i64), .dat false (.sl (.int .i64)), .dat false (.int .i64), .dat false (.sl (.int .i64)), .dat false y10q, .dat false (.int .i64), .int .i64, .bool], .arr true (.int .i64)], []⟩
def O131_0q : List (Ex × Spec) := [(.exit 0, X0_131_0q)]
def c131_0q (f : core_Is_L0T) (d : I131_0q.den) : Option core_Is_L0X := f d.1.2.2.2.1.1 d.1.2.2.2.2.1.1 d.1.2.2.2.2.2.1.1 d.2.1.1 d.2.1.2.1 d.2.1.2.2.1 d.2.1.2.2.2.1 d.2.1.2.2.2.2.1 d.2.2.1.1 d.2.2.1.2.1 d.2.2.1.2.2.1 d.2.2.1.2.2.2.1 d.2.2.1.2.2.2.2.1 d.2.2.1.2.2.2.2.2.1 d.2.2.1.2.2.2.2.2.2.1 d.2.2.1.2.2.2.2.2.2.2.1 d.2.2.1.2.2.2.2.2.2.2.2.1 d.2.2.1.2.2.2.2.2.2.2.2.2.1 d.2.2.1.2.2.2.2.2.2.2.2.2.2.1 d.2.2.2.1
def T131_0q : OutD O131_0q → core_Is_L0X := fun d => (d.2.1.1, d.2.1.2.1, d.2.1.2.2.1, d.2.1.2.2.2.1, d.2.1.2.2.2.2.1, d.2.2.1.1, d.2.2.1.2.1, d.2.2.1.2.2.1, d.2.2.1.2.2.2.1, d.2.2.1.2.2.2.2.1, d.2.2.1.2.2.2.2.2.1, d.2.2.1.2.2.2.2.2.2.1, d.2.2.1.2.2.2.2.2.2.2.1, d.2.2.1.2.2.2.2.2.2.2.2.1, d.2.2.1.2.2.2.2.2.2.2.2.2.1, d.2.2.1.2.2.2.2.2.2.2.2.2.2.1, d.2.2.2.1)
def e131_0q : Elim core_Is_L0X := fun base x _ K => K (.exit 0) (stOf base X0_131_0q (((), (), (), ()), ((x.1, x.2.1, x.2.2.1, x.2.2.2.1, x.2.2.2.2.1, ()), (x.2.2.2.2.2.1, x.2.2.2.2.2.2.1, x.2.2.2.2.2.2.2.1, x.2.2.2.2.2.2.2.2.1, x.2.2.2.2.2.2.2.2.2.1, x.2.2.2.2.2.2.2.2.2.2.1, x.2.2.2.2.2.2.2.2.2.2.2.1, x.2.2.2.2.2.2.2.2.2.2.2.2.1, x.2.2.2.2.2.2.2.2.2.2.2.2.2.1, x.2.2.2.2.2.2.2.2.2.2.2.2.2.2.1, x.2.2.2.2.2.2.2.2.2.2.2.2.2.2.2.1, ()), x.2.2.2.2.2.2.2.2.2.2.2.2.2.2.2.2, ())))
def L131_0q : LoopSum := ⟨I131_0q, O131_0q, core_Is_L0X, fun k d => c131_0q (core_Is_L0 k k) d, e131_0q⟩
def A131q : Notes := ⟨[], [(5, L131_0q)]⟩
theorem B131q : EnvB E131q := env_n mixed_orders ⟨F94q, F62q, F110q, F129q, F105q, F130q, trivial⟩
theorem st131_0q : StepOK E131q A131q 0 92 (loopAt (bodyOf Proofs.Tryz.f67) 0) I131_0q O131_0q T131_0q c131_0q core_Is_L0b := by intro k rec d; kernel_rfl
theorem lk131_0q : LoopOK E131q.P 1000 0 92 (loopAt (bodyOf Proofs.Tryz.f67) 0) L131_0q := loop_b B131q st131_0q core_Is_L0 e131_0q (fun _ _ _ => rfl) loops0
def as131q : List AS := [.agg [.int .i64, .dat false y0q, .int .i64, .int .i64, .int .i64], .agg [.int .i64, .dat false y6q, .dat false (.sl (.int .i64)), .dat false (.int .i64), .dat false (.sl (.int .i64)), .dat false (.int .i64), .dat false (.sl (.int .i64)), .dat false y10q, .dat false (.int .i64), .int .i64, .bool]]
def rs131q : RS := .c (.bool)
def pk131q : Bool → RL rs131q.cells := fun x => (x, ())
def up131q : RL rs131q.cells → Bool := fun d => d.1
def s131q (k : Nat) (d : AD as131q) := core_Is k d.1 d.2.1 d.2.2.1 d.2.2.2.1 d.2.2.2.2.1 d.2.2.2.2.2.1 d.2.2.2.2.2.2.1 d.2.2.2.2.2.2.2.1 d.2.2.2.2.2.2.2.2.1 d.2.2.2.2.2.2.2.2.2.1 d.2.2.2.2.2.2.2.2.2.2.1 d.2.2.2.2.2.2.2.2.2.2.2.1 d.2.2.2.2.2.2.2.2.2.2.2.2.1 d.2.2.2.2.2.2.2.2.2.2.2.2.2.1 d.2.2.2.2.2.2.2.2.2.2.2.2.2.2.1 d.2.2.2.2.2.2.2.2.2.2.2.2.2.2.2.1
def R131q : Nat × Entry := (67, fun k nm args h => entry as131q rs131q (s131q k) pk131q nm args h)
theorem ev131q : EvOK E131q A131q 0 Proofs.Tryz.f67 as131q rs131q up131q s131q := by intro k d; kernel_rfl
theorem F131q : FnOK Proofs.Tryz.prog R131q := fn_b B131q ev131q (loops1 lk131_0q)

/-! ### giro/audit.Zero$1 -/
noncomputable def E132q : Env := ⟨Proofs.Tryz.prog, fun _ => false, sumsOf []⟩
def A132q : Notes := ⟨[], []⟩
theorem B132q : EnvB E132q := env_n mixed_orders trivial
def as132q : List AS := [.c (.dat false (.int .i64)), .ptr [.dat false y6q, .dat false (.sl (.int .i64)), .dat false (.int .i64), .dat false (.sl (.int .i64))]]
def rs132q : RS := .c (.bool)
def pk132q : Bool → RL rs132q.cells := fun x => (x, ())
def up132q : RL rs132q.cells → Bool := fun d => d.1
def s132q (k : Nat) (d : AD as132q) := audit_Zero_fn1 k d.1 d.2.1 d.2.2.1 d.2.2.2.1 d.2.2.2.2.1
def R132q : Nat × Entry := (43, fun k nm args h => entry as132q rs132q (s132q k) pk132q nm args h)
theorem ev132q : EvOK E132q A132q 0 Proofs.Tryz.f43 as132q rs132q up132q s132q := by intro k d; kernel_rfl
theorem F132q : FnOK Proofs.Tryz.prog R132q := fn_0 B132q ev132q

/-! ### slices.IndexFunc[[][]int64,[]int64] -/
noncomputable def E133q : Env := ⟨Proofs.Tryz.prog, fun _ => false, sumsOf [R132q]⟩
def I133_0q : Spec := ⟨[(0, .c (.dat false (.sl (.int .i64)))), (1, .c (.lit (.fn 43 [1001000]))), (7, .c (.int .i64)), (8, .c (.int .i64))], [.robox [.dat false y6q, .dat false (.sl (.int .i64)), .dat false (.int .i64), .dat false (.sl (.int .i64))]], []⟩
def X0_133_0q : Spec := ⟨[], [], []⟩
def X1_133_0q : Spec := ⟨[(4, .c (.int .i64))], [], []⟩
def O133_0q : List (Ex × Spec) := [(.exit 0, X0_133_0q), (.ret, X1_133_0q)]
def c133_0q (f : slices_IndexFunc_Rowint64__audit_Zero_fn1_L0T) (d : I133_0q.den) : Option (Unit ⊕ Int) := f d.1.1.1 d.1.2.2.1.1 d.1.2.2.2.1.1 d.2.1.1 d.2.1.2.1 d.2.1.2.2.1 d.2.1.2.2.2.1
def T133_0q : OutD O133_0q → (Unit ⊕ Int)
 | .inl d => .inl ()
 | .inr d => .inr d.1.1.1
def e133_0q : Elim (Unit ⊕ Int) := fun base x _ K => match x with
 | .inl x => K (.exit 0) (stOf base X0_133_0q ((), ()))
 | .inr x => K .ret (stOf base X1_133_0q (((x, ()), ()), ()))
def L133_0q : LoopSum := ⟨I133_0q, O133_0q, (Unit ⊕ Int), fun k d => c133_0q (slices_IndexFunc_Rowint64__audit_Zero_fn1_L0 k k) d, e133_0q⟩
def A133q : Notes := ⟨[], [(2, L133_0q)]⟩
theorem B133q : EnvB E133q := env_n mixed_orders ⟨F132q, trivial⟩
theorem st133_0q : StepOK E133q A133q 0 19 (loopAt (bodyOf Proofs.Tryz.f75) 0) I133_0q O133_0q T133_0q c133_0q slices_IndexFunc_Rowint64__audit_Zero_fn1_L0b := by intro k rec d; kernel_rfl
theorem lk133_0q : LoopOK E133q.P 1000 0 19 (loopAt (bodyOf Proofs.Tryz.f75) 0) L133_0q := loop_b B133q st133_0q slices_IndexFunc_Rowint64__audit_Zero_fn1_L0 e133_0q (by intro o R K; rcases o with o | o <;> rfl) loops0
def as133q : List AS := [.c (.dat false (.sl (.int .i64))), .fn 43 [[.dat false y6q, .dat false (.sl (.int .i64)), .dat false (.int .i64), .dat false (.sl (.int .i64))]]]
def rs133q : RS := .c (.int .i64)
def pk133q : Int → RL rs133q.cells := fun x => (x, ())
def up133q : RL rs133q.cells → Int := fun d => d.1
def s133q (k : Nat) (d : AD as133q) := slices_IndexFunc_Rowint64__audit_Zero_fn1 k d.1 d.2.1 d.2.2.1 d.2.2.2.1 d.2.2.2.2.1
def R133q : Nat × Entry := (75, fun k nm args h => entry as133q rs133q (s133q k) pk133q nm args h)
theorem ev133q : EvOK E133q A133q 0 Proofs.Tryz.f75 as133q rs133q up133q s133q := by intro k d; kernel_rfl
theorem F133q : FnOK Proofs.Tryz.prog R133q := fn_b B133q ev133q (loops1 lk133_0q)

/-! ### slices.ContainsFunc[[][]int64,[]int64] -/
noncomputable def E134q : Env := ⟨Proofs.Tryz.prog, fun _ => false, sumsOf [R133q]⟩
def A134q : Notes := ⟨[], []⟩
theorem B134q : EnvB E134q := env_n mixed_orders ⟨F133q, trivial⟩
def as134q : List AS := [.c (.dat false (.sl (.int .i64))), .fn 43 [[.dat false y6q, .dat false (.sl (.int .i64)), .dat false (.int .i64), .dat false (.sl (.int .i64))]]]
def rs134q : RS := .c (.bool)
def pk134q : Bool → RL rs134q.cells := fun x => (x, ())
def up134q : RL rs134q.cells → Bool := fun d => d.1
def s134q (k : Nat) (d : AD as134q) := slices_ContainsFunc_Rowint64__audit_Zero_fn1 k d.1 d.2.1 d.2.2.1 d.2.2.2.1 d.2.2.2.2.1
def R134q : Nat × Entry := (44, fun k nm args h => entry as134q rs134q (s134q k) pk134q nm args h)
theorem ev134q : EvOK E134q A134q 0 Proofs.Tryz.f44 as134q rs134q up134q s134q := by intro k d; kernel_rfl
theorem F134q : FnOK Proofs.Tryz.prog R134q := fn_0 B134q ev134q

/-! ### giro/audit.Zero -/
noncomputable def E135q : Env := ⟨Proofs.Tryz.prog, fun _ => false, sumsOf [R134q, R105q]⟩
def I135_0q : Spec := ⟨[(1, .c (.lit (.ptr 1001000 0))), (3, .c (.lit (.osl 1001001 none))), (5, .c (.int .i64)), (17, .c (.dat false (.sl (.int .i64)))), (18, .c (.int .i64)), (19, .c (.int .i64)), (24, .c (.dat false (.int .i64))), (25, .c (.int .i64)), (26, .c (.int .i64))], [.box true [.dat false y6q, .dat false (.sl (.int .i64)), .dat false (.int .i64), .dat false (.sl (.int .i64))], .arr true (.int .i64)], [(3, none, (.int .i64), false)]⟩
def X0_135_0q : Spec := ⟨[(1, .c (.lit (.ptr 1001000 0))), (3, .c (.lit (.osl 1001001 none))), (17, .c (.dat false (.sl (.int .i64)))), (18, .c (.int .i64)), (19, .c (.int .i64))], [.box true [.dat false y6q, .dat false (.sl (.int .i64)), .dat false (.int .i64), .dat false (.sl (.int .i64))], .arr true (.int .i64)], []⟩
def X1_135_0q : Spec := ⟨[(2, .c (.bool))], [], []⟩
def O135_0q : List (Ex × Spec) := [(.exit 2, X0_135_0q), (.ret, X1_135_0q)]
def c135_0q (f : audit_Zero_L1T) (d : I135_0q.den) : Option audit_Zero_L1X := f d.1.2.2.1.1 d.1.2.2.2.1.1 d.1.2.2.2.2.1.1 d.1.2.2.2.2.2.1.1 d.1.2.2.2.2.2.2.1.1 d.1.2.2.2.2.2.2.2.1.1 d.1.2.2.2.2.2.2.2.2.1.1 d.2.1.1 d.2.1.2.1 d.2.1.2.2.1 d.2.1.2.2.2.1 d.2.2.1
def T135_0q : OutD O135_0q → audit_Zero_L1X
 | .inl d => .inl (d.1.2.2.1.1, d.1.2.2.2.1.1, d.1.2.2.2.2.1.1, d.2.1.1, d.2.1.2.1, d.2.1.2.2.1, d.2.1.2.2.2.1, d.2.2.1)
 | .inr d => .inr d.1.1.1
def e135_0q : Elim audit_Zero_L1X := fun base x _ K => match x with
 | .inl x => K (.exit 2) (stOf base X0_135_0q (((), (), (x.1, ()), (x.2.1, ()), (x.2.2.1, ()), ()), ((x.2.2.2.1, x.2.2.2.2.1, x.2.2.2.2.2.1, x.2.2.2.2.2.2.1, ()), x.2.2.2.2.2.2.2, ())))
 | .inr x => K .ret (stOf base X1_135_0q (((x, ()), ()), ()))
def L135_0q : LoopSum := ⟨I135_0q, O135_0q, audit_Zero_L1X, fun k d => c135_0q (audit_Zero_L1 k k) d, e135_0q⟩
def I135_1q : Spec := ⟨[(1, .c (.lit (.ptr 1001000 0))), (3, .c (.lit (.osl 1001001 none))), (17, .c (.dat false (.sl (.int .i64)))), (18, .c (.int .i64)), (19, .c (.int .i64))], [.box true [.dat false y6q, .dat false (.sl (.int .i64)), .dat false (.int .i64), .dat false (.sl (.int .i64))], .arr true (.int .i64)], [(3, none, (.int .i64), false)]⟩
def X0_135_1q : Spec := ⟨[(3, .c (.lit (.osl 1001000 none)))], [.arr true (.int .i64)], []⟩
def X1_135_1q : Spec := ⟨[(2, .c (.bool))], [], []⟩
def O135_1q : List (Ex × Spec) := [(.exit 0, X0_135_1q), (.ret, X1_135_1q)]
def c135_1q (f : audit_Zero_L0T) (d : I135_1q.den) : Option ((List Int) ⊕ Bool) := f d.1.2.2.1.1 d.1.2.2.2.1.1 d.1.2.2.2.2.1.1 d.2.1.1 d.2.1.2.1 d.2.1.2.2.1 d.2.1.2.2.2.1 d.2.2.1
def T135_1q : OutD O135_1q → ((List Int) ⊕ Bool)
 | .inl d => .inl d.2.1
 | .inr d => .inr d.1.1.1
def e135_1q : Elim ((List Int) ⊕ Bool) := fun base x _ K => match x with
 | .inl x => K (.exit 0) (stOf base X0_135_1q (((), ()), (x, ())))
 | .inr x => K .ret (stOf base X1_135_1q (((x, ()), ()), ()))
def L135_1q : LoopSum := ⟨I135_1q, O135_1q, ((List Int) ⊕ Bool), fun k d => c135_1q (audit_Zero_L0 k k) d, e135_1q⟩
def A135q : Notes := ⟨[], [(9, L135_0q), (6, L135_1q)]⟩
theorem B135q : EnvB E135q := env_n mixed_orders ⟨F134q, F105q, trivial⟩
theorem st135_0q : StepOK E135q A135q 0 58 (loopAt (loopAt (bodyOf Proofs.Tryz.f20) 0) 0) I135_0q O135_0q T135_0q c135_0q audit_Zero_L1b := by intro k rec d; kernel_rfl
theorem lk135_0q : LoopOK E135q.P 1000 0 58 (loopAt (loopAt (bodyOf Proofs.Tryz.f20) 0) 0) L135_0q := loop_b B135q st135_0q audit_Zero_L1 e135_0q (by intro o R K; rcases o with o | o <;> rfl) loops0
theorem st135_1q : StepOK E135q A135q 0 58 (loopAt (bodyOf Proofs.Tryz.f20) 0) I135_1q O135_1q T135_1q c135_1q audit_Zero_L0b := by intro k rec d; kernel_rfl
theorem lk135_1q : LoopOK E135q.P 1000 0 58 (loopAt (bodyOf Proofs.Tryz.f20) 0) L135_1q := loop_b B135q st135_1q audit_Zero_L0 e135_1q (by intro o R K; rcases o with o | o <;> rfl) (loops1 lk135_0q)
def as135q : List AS := [.agg [.dat false y6q, .dat false (.sl (.int .i64)), .dat false (.int .i64), .dat false (.sl (.int .i64))]]
def rs135q : RS := .c (.bool)
def pk135q : Bool → RL rs135q.cells := fun x => (x, ())
def up135q : RL rs135q.cells → Bool := fun d => d.1
def s135q (k : Nat) (d : AD as135q) := audit_Zero k d.1 d.2.1 d.2.2.1 d.2.2.2.1
def R135q : Nat × Entry := (20, fun k nm args h => entry as135q rs135q (s135q k) pk135q nm args h)
theorem ev135q : EvOK E135q A135q 0 Proofs.Tryz.f20 as135q rs135q up135q s135q := by intro k d; kernel_rfl
theorem F135q : FnOK Proofs.Tryz.prog R135q := fn_b B135q ev135q (loops1 lk135_1q)

/-! ### giro/audit.State -/
noncomputable def E136q : Env := ⟨Proofs.Tryz.prog, fun _ => false, sumsOf [R131q, R135q, R66q]⟩
def A136q : Notes := ⟨[], []⟩
theorem B136q : EnvB E136q := env_n mixed_orders ⟨F131q, F135q, F66q, trivial⟩
def as136q : List AS := [.agg [.int .i64, .dat false y0q, .int .i64, .int .i64, .int .i64], .agg [.int .i64, .dat true y6q, .dat true (.sl (.int .i64)), .dat true (.int .i64), .dat true (.sl (.int .i64)), .dat false (.int .i64), .dat false (.sl (.int .i64)), .dat true y10q, .dat false (.int .i64), .int .i64, .bool]]
def rs136q : RS := .c (.bool)
def pk136q : Bool → RL rs136q.cells := fun x => (x, ())
def up136q : RL rs136q.cells → Bool := fun d => d.1
def s136q (k : Nat) (d : AD as136q) := audit_State k d.1 d.2.1 d.2.2.1 d.2.2.2.1 d.2.2.2.2.1 d.2.2.2.2.2.1 d.2.2.2.2.2.2.1 d.2.2.2.2.2.2.2.1 d.2.2.2.2.2.2.2.2.1 d.2.2.2.2.2.2.2.2.2.1 d.2.2.2.2.2.2.2.2.2.2.1 d.2.2.2.2.2.2.2.2.2.2.2.1 d.2.2.2.2.2.2.2.2.2.2.2.2.1 d.2.2.2.2.2.2.2.2.2.2.2.2.2.1 d.2.2.2.2.2.2.2.2.2.2.2.2.2.2.1 d.2.2.2.2.2.2.2.2.2.2.2.2.2.2.2.1
def R136q : Nat × Entry := (33, fun k nm args h => entry as136q rs136q (s136q k) pk136q nm args h)
theorem ev136q : EvOK E136q A136q 0 Proofs.Tryz.f33 as136q rs136q up136q s136q := by intro k d; kernel_rfl
theorem F136q : FnOK Proofs.Tryz.prog R136q := fn_0 B136q ev136q

/-! ### giro/cash.Add -/
noncomputable def E137q : Env := ⟨Proofs.Tryz.prog, fun _ => false, sumsOf []⟩
def A137q : Notes := ⟨[], []⟩
theorem B137q : EnvB E137q := env_n mixed_orders trivial
def as137q : List AS := [.c (.int .i64), .c (.int .i64)]
def rs137q : RS := .tup [(false, [.int .i64]), (false, [.bool])]
def pk137q : Int × Bool → RL rs137q.cells := fun x => (x.1, x.2, ())
def up137q : RL rs137q.cells → Int × Bool := fun d => (d.1, d.2.1)
def s137q (k : Nat) (d : AD as137q) := cash_Add k d.1 d.2.1
def R137q : Nat × Entry := (74, fun k nm args h => entry as137q rs137q (s137q k) pk137q nm args h)
theorem ev137q : EvOK E137q A137q 0 Proofs.Tryz.f74 as137q rs137q up137q s137q := by intro k d; kernel_rfl
theorem F137q : FnOK Proofs.Tryz.prog R137q := fn_0 B137q ev137q

/-! ### giro/audit.isBelow -/
noncomputable def E138q : Env := ⟨Proofs.Tryz.prog, fun _ => false, sumsOf [R137q]⟩
def A138q : Notes := ⟨[], []⟩
theorem B138q : EnvB E138q := env_n mixed_orders ⟨F137q, trivial⟩
def as138q : List AS := [.agg [.int .i64, .int .i64, .int .i64]]
def rs138q : RS := .c (.bool)
def pk138q : Bool → RL rs138q.cells := fun x => (x, ())
def up138q : RL rs138q.cells → Bool := fun d => d.1
def s138q (k : Nat) (d : AD as138q) := audit_isBelow k d.1 d.2.1 d.2.2.1
def R138q : Nat × Entry := (41, fun k nm args h => entry as138q rs138q (s138q k) pk138q nm args h)
theorem ev138q : EvOK E138q A138q 0 Proofs.Tryz.f41 as138q rs138q up138q s138q := by intro k d; kernel_rfl
theorem F138q : FnOK Proofs.Tryz.prog R138q := fn_0 B138q ev138q

/-! ### giro/audit.Floors -/
noncomputable def E139q : Env := ⟨Proofs.Tryz.prog, fun _ => false, sumsOf [R138q]⟩
def I139_0q : Spec := ⟨[(2, .c (.lit (.ptr 1001000 0))), (15, .c (.dat false y6q)), (16, .c (.int .i64)), (17, .c (.int .i64))], [.box true [.dat false y6q, .dat false (.sl (.int .i64)), .dat false (.int .i64), .dat false (.sl (.int .i64))]], []⟩
def X0_139_0q : Spec := ⟨[], [], []⟩
def X1_139_0q : Spec := ⟨[(4, .c (.bool))], [], []⟩
def O139_0q : List (Ex × Spec) := [(.exit 0, X0_139_0q), (.ret, X1_139_0q)]
def c139_0q (f : audit_Floors_L0T) (d : I139_0q.den) : Option (Unit ⊕ Bool) := f d.1.2.1.1 d.1.2.2.1.1 d.1.2.2.2.1.1 d.2.1.1 d.2.1.2.1 d.2.1.2.2.1 d.2.1.2.2.2.1
def T139_0q : OutD O139_0q → (Unit ⊕ Bool)
 | .inl d => .inl ()
 | .inr d => .inr d.1.1.1
def e139_0q : Elim (Unit ⊕ Bool) := fun base x _ K => match x with
 | .inl x => K (.exit 0) (stOf base X0_139_0q ((), ()))
 | .inr x => K .ret (stOf base X1_139_0q (((x, ()), ()), ()))
def L139_0q : LoopSum := ⟨I139_0q, O139_0q, (Unit ⊕ Bool), fun k d => c139_0q (audit_Floors_L0 k k) d, e139_0q⟩
def A139q : Notes := ⟨[], [(4, L139_0q)]⟩
theorem B139q : EnvB E139q := env_n mixed_orders ⟨F138q, trivial⟩
theorem st139_0q : StepOK E139q A139q 0 36 (loopAt (bodyOf Proofs.Tryz.f18) 0) I139_0q O139_0q T139_0q c139_0q audit_Floors_L0b := by intro k rec d; kernel_rfl
theorem lk139_0q : LoopOK E139q.P 1000 0 36 (loopAt (bodyOf Proofs.Tryz.f18) 0) L139_0q := loop_b B139q st139_0q audit_Floors_L0 e139_0q (by intro o R K; rcases o with o | o <;> rfl) loops0
def as139q : List AS := [.agg [.dat false y6q, .dat false (.sl (.int .i64)), .dat false (.int .i64), .dat false (.sl (.int .i64))], .agg [.dat false y6q, .dat false (.sl (.int .i64)), .dat false (.int .i64), .dat false (.sl (.int .i64))]]
def rs139q : RS := .c (.bool)
def pk139q : Bool → RL rs139q.cells := fun x => (x, ())
def up139q : RL rs139q.cells → Bool := fun d => d.1
def s139q (k : Nat) (d : AD as139q) := audit_Floors k d.1 d.2.1 d.2.2.1 d.2.2.2.1 d.2.2.2.2.1 d.2.2.2.2.2.1 d.2.2.2.2.2.2.1 d.2.2.2.2.2.2.2.1
def R139q : Nat × Entry := (18, fun k nm args h => entry as139q rs139q (s139q k) pk139q nm args h)
theorem ev139q : EvOK E139q A139q 0 Proofs.Tryz.f18 as139q rs139q up139q s139q := by intro k d; kernel_rfl
theorem F139q : FnOK Proofs.Tryz.prog R139q := fn_b B139q ev139q (loops1 lk139_0q)

/-! ### giro/audit.Once -/
noncomputable def E140q : Env := ⟨Proofs.Tryz.prog, fun _ => false, sumsOf []⟩
def I140_0q : Spec := ⟨[(0, .c (.dat false (.pair (.int .i64) y10q))), (6, .c (.int .i64)), (7, .c (.int .i64)), (8, .c (.int .i64)), (11, .c (.dat false (.int .i64))), (12, .c (.int .i64)), (13, .c (.int .i64)), (17, .c (.dat false (.pair (.int .i64) y10q))), (18, .c (.int .i64)), (19, .c (.int .i64))], [], []⟩
def X0_140_0q : Spec := ⟨[(0, .c (.dat false (.pair (.int .i64) y10q))), (7, .c (.int .i64)), (8, .c (.int .i64)), (11, .c (.dat false (.int .i64))), (12, .c (.int .i64)), (13, .c (.int .i64))], [], []⟩
def O140_0q : List (Ex × Spec) := [(.exit 2, X0_140_0q)]
def c140_0q (f : audit_Once_L1T) (d : I140_0q.den) : Option audit_Once_L1X := f d.1.1.1 d.1.2.1.1 d.1.2.2.1.1 d.1.2.2.2.1.1 d.1.2.2.2.2.1.1 d.1.2.2.2.2.2.1.1 d.1.2.2.2.2.2.2.1.1 d.1.2.2.2.2.2.2.2.1.1 d.1.2.2.2.2.2.2.2.2.1.1 d.1.2.2.2.2.2.2.2.2.2.1.1
def T140_0q : OutD O140_0q → audit_Once_L1X := fun d => (d.1.1.1, d.1.2.1.1, d.1.2.2.1.1, d.1.2.2.2.1.1, d.1.2.2.2.2.1.1, d.1.2.2.2.2.2.1.1)
def e140_0q : Elim audit_Once_L1X := fun base x _ K => K (.exit 2) (stOf base X0_140_0q (((x.1, ()), (x.2.1, ()), (x.2.2.1, ()), (x.2.2.2.1, ()), (x.2.2.2.2.1, ()), (x.2.2.2.2.2, ()), ()), ()))
def L140_0q : LoopSum := ⟨I140_0q, O140_0q, audit_Once_L1X, fun k d => c140_0q (audit_Once_L1 k k) d, e140_0q⟩
def I140_1q : Spec := ⟨[(0, .c (.dat false (.pair (.int .i64) y10q))), (11, .c (.dat false (.int .i64))), (12, .c (.int .i64)), (13, .c (.int .i64))], [], []⟩
def X0_140_1q : Spec := ⟨[], [], []⟩
def X1_140_1q : Spec := ⟨[(4, .c (.bool))], [], []⟩
def O140_1q : List (Ex × Spec) := [(.exit 0, X0_140_1q), (.ret, X1_140_1q)]
def c140_1q (f : audit_Once_L0T) (d : I140_1q.den) : Option (Unit ⊕ Bool) := f d.1.1.1 d.1.2.1.1 d.1.2.2.1.1 d.1.2.2.2.1.1
def T140_1q : OutD O140_1q → (Unit ⊕ Bool)
 | .inl d => .inl ()
 | .inr d => .inr d.1.1.1
def e140_1q : Elim (Unit ⊕ Bool) := fun base x _ K => match x with
 | .inl x => K (.exit 0) (stOf base X0_140_1q ((), ()))
 | .inr x => K .ret (stOf base X1_140_1q (((x, ()), ()), ()))
def L140_1q : LoopSum := ⟨I140_1q, O140_1q, (Unit ⊕ Bool), fun k d => c140_1q (audit_Once_L0 k k) d, e140_1q⟩
def A140q : Notes := ⟨[], [(6, L140_0q), (2, L140_1q)]⟩
theorem B140q : EnvB E140q := env_n mixed_orders trivial
theorem st140_0q : StepOK E140q A140q 0 59 (loopAt (loopAt (bodyOf Proofs.Tryz.f34) 0) 0) I140_0q O140_0q T140_0q c140_0q audit_Once_L1b := by intro k rec d; kernel_rfl
theorem lk140_0q : LoopOK E140q.P 1000 0 59 (loopAt (loopAt (bodyOf Proofs.Tryz.f34) 0) 0) L140_0q := loop_b B140q st140_0q audit_Once_L1 e140_0q (fun _ _ _ => rfl) loops0
theorem st140_1q : StepOK E140q A140q 0 59 (loopAt (bodyOf Proofs.Tryz.f34) 0) I140_1q O140_1q T140_1q c140_1q audit_Once_L0b := by intro k rec d; kernel_rfl
theorem lk140_1q : LoopOK E140q.P 1000 0 59 (loopAt (bodyOf Proofs.Tryz.f34) 0) L140_1q := loop_b B140q st140_1q audit_Once_L0 e140_1q (by intro o R K; rcases o with o | o <;> rfl) (loops1 lk140_0q)
def as140q : List AS := [.c (.dat false (.pair (.int .i64) y10q)), .c (.dat false (.int .i64))]
def rs140q : RS := .c (.bool)
def pk140q : Bool → RL rs140q.cells := fun x => (x, ())
def up140q : RL rs140q.cells → Bool := fun d => d.1
def s140q (k : Nat) (d : AD as140q) := audit_Once k d.1 d.2.1
def R140q : Nat × Entry := (34, fun k nm args h => entry as140q rs140q (s140q k) pk140q nm args h)
theorem ev140q : EvOK E140q A140q 0 Proofs.Tryz.f34 as140q rs140q up140q s140q := by intro k d; kernel_rfl
theorem F140q : FnOK Proofs.Tryz.prog R140q := fn_b B140q ev140q (loops1 lk140_1q)

/-! ### giro/girolaw27.known -/
noncomputable def E141q : Env := ⟨Proofs.Tryz.prog, fun _ => false, sumsOf [R92q, R93q, R136q, R135q, R139q, R140q]⟩
def A141q : Notes := ⟨[], []⟩
theorem B141q : EnvB E141q := env_n mixed_orders ⟨F92q, F93q, F136q, F135q, F139q, F140q, trivial⟩
def as141q : List AS := []
def rs141q : RS := .c (.bool)
def pk141q : Bool → RL rs141q.cells := fun x => (x, ())
def up141q : RL rs141q.cells → Bool := fun d => d.1
def s141q (k : Nat) (d : AD as141q) := girolaw27_known k
def R141q : Nat × Entry := (15, fun k nm args h => entry as141q rs141q (s141q k) pk141q nm args h)
theorem ev141q : EvOK E141q A141q 0 Proofs.Tryz.f15 as141q rs141q up141q s141q := by intro k d; kernel_rfl
theorem F141q : FnOK Proofs.Tryz.prog R141q := fn_0 B141q ev141q

/-! ### giro/giroref27.below -/
noncomputable def E143q : Env := ⟨Proofs.Tryz.prog, fun _ => false, sumsOf []⟩
def A143q : Notes := ⟨[], []⟩
theorem B143q : EnvB E143q := env_n mixed_orders trivial
def as143q : List AS := [.c (.int .i64), .c (.int .i64)]
def rs143q : RS := .c (.bool)
def pk143q : Bool → RL rs143q.cells := fun x => (x, ())
def up143q : RL rs143q.cells → Bool := fun d => d.1
def s143q (k : Nat) (d : AD as143q) := giroref27_below k d.1 d.2.1
def R143q : Nat × Entry := (42, fun k nm args h => entry as143q rs143q (s143q k) pk143q nm args h)
theorem ev143q : EvOK E143q A143q 0 Proofs.Tryz.f42 as143q rs143q up143q s143q := by intro k d; kernel_rfl
theorem F143q : FnOK Proofs.Tryz.prog R143q := fn_0 B143q ev143q

/-! ### giro/giroref27.Floors -/
noncomputable def E144q : Env := ⟨Proofs.Tryz.prog, fun _ => false, sumsOf [R143q]⟩
def I144_0q : Spec := ⟨[(2, .c (.lit (.ptr 1001000 0))), (3, .c (.lit (.ptr 1001001 0))), (5, .c (.int .i64))], [.box true [.dat false y6q, .dat false (.sl (.int .i64)), .dat false (.int .i64), .dat false (.sl (.int .i64))], .box true [.dat false y6q, .dat false (.sl (.int .i64)), .dat false (.int .i64), .dat false (.sl (.int .i64))]], []⟩
def X0_144_0q : Spec := ⟨[], [], []⟩
def X1_144_0q : Spec := ⟨[(4, .c (.bool))], [], []⟩
def O144_0q : List (Ex × Spec) := [(.exit 0, X0_144_0q), (.ret, X1_144_0q)]
def c144_0q (f : giroref27_Floors_L0T) (d : I144_0q.den) : Option (Unit ⊕ Bool) := f d.1.2.2.1.1 d.2.1.1 d.2.1.2.1 d.2.1.2.2.1 d.2.1.2.2.2.1 d.2.2.1.1 d.2.2.1.2.1 d.2.2.1.2.2.1 d.2.2.1.2.2.2.1
def T144_0q : OutD O144_0q → (Unit ⊕ Bool)
 | .inl d => .inl ()
 | .inr d => .inr d.1.1.1
def e144_0q : Elim (Unit ⊕ Bool) := fun base x _ K => match x with
 | .inl x => K (.exit 0) (stOf base X0_144_0q ((), ()))
 | .inr x => K .ret (stOf base X1_144_0q (((x, ()), ()), ()))
def L144_0q : LoopSum := ⟨I144_0q, O144_0q, (Unit ⊕ Bool), fun k d => c144_0q (giroref27_Floors_L0 k k) d, e144_0q⟩
def A144q : Notes := ⟨[], [(4, L144_0q)]⟩
theorem B144q : EnvB E144q := env_n mixed_orders ⟨F143q, trivial⟩
theorem st144_0q : StepOK E144q A144q 0 42 (loopAt (bodyOf Proofs.Tryz.f19) 0) I144_0q O144_0q T144_0q c144_0q giroref27_Floors_L0b := by intro k rec d; kernel_rfl
theorem lk144_0q : LoopOK E144q.P 1000 0 42 (loopAt (bodyOf Proofs.Tryz.f19) 0) L144_0q := loop_b B144q st144_0q giroref27_Floors_L0 e144_0q (by intro o R K; rcases o with o | o <;> rfl) loops0
def as144q : List AS := [.agg [.dat false y6q, .dat false (.sl (.int .i64)), .dat false (.int .i64), .dat false (.sl (.int .i64))], .agg [.dat false y6q, .dat false (.sl (.int .i64)), .dat false (.int .i64), .dat false (.sl (.int .i64))]]
def rs144q : RS := .c (.bool)
def pk144q : Bool → RL rs144q.cells := fun x => (x, ())
def up144q : RL rs144q.cells → Bool := fun d => d.1
def s144q (k : Nat) (d : AD as144q) := giroref27_Floors k d.1 d.2.1 d.2.2.1 d.2.2.2.1 d.2.2.2.2.1 d.2.2.2.2.2.1 d.2.2.2.2.2.2.1 d.2.2.2.2.2.2.2.1
def R144q : Nat × Entry := (19, fun k nm args h => entry as144q rs144q (s144q k) pk144q nm args h)
theorem ev144q : EvOK E144q A144q 0 Proofs.Tryz.f19 as144q rs144q up144q s144q := by intro k d; kernel_rfl
theorem F144q : FnOK Proofs.Tryz.prog R144q := fn_b B144q ev144q (loops1 lk144_0q)

/-! ### giro/girolaw27.AuditPosts -/
noncomputable def E_girolaw27_AuditPosts : Env := ⟨Proofs.Tryz.prog, fun _ => false, sumsOf [R0q, R6q, R84q, R74q, R139q, R144q, R135q, R141q]⟩
def A_girolaw27_AuditPosts : Notes := ⟨[], []⟩
theorem B_girolaw27_AuditPosts : EnvB E_girolaw27_AuditPosts := env_n mixed_orders ⟨F0q, F6q, F84q, F74q, F139q, F144q, F135q, F141q, trivial⟩
def as_girolaw27_AuditPosts : List AS := [.c (.dat false (.int .i64)), .c (.int .i64), .c (.dat false y10q), .c (.int .i64)]
def rs_girolaw27_AuditPosts : RS := .c (.bool)
def pk_girolaw27_AuditPosts : Bool → RL rs_girolaw27_AuditPosts.cells := fun x => (x, ())
def up_girolaw27_AuditPosts : RL rs_girolaw27_AuditPosts.cells → Bool := fun d => d.1
def s_girolaw27_AuditPosts (k : Nat) (d : AD as_girolaw27_AuditPosts) := girolaw27_AuditPosts k d.1 d.2.1 d.2.2.1 d.2.2.2.1
def R_girolaw27_AuditPosts : Nat × Entry := (4, fun k nm args h => entry as_girolaw27_AuditPosts rs_girolaw27_AuditPosts (s_girolaw27_AuditPosts k) pk_girolaw27_AuditPosts nm args h)
theorem girolaw27_AuditPosts_ev : EvOK E_girolaw27_AuditPosts A_girolaw27_AuditPosts 0 Proofs.Tryz.f4 as_girolaw27_AuditPosts rs_girolaw27_AuditPosts up_girolaw27_AuditPosts s_girolaw27_AuditPosts := by intro k d; kernel_rfl
theorem F_girolaw27_AuditPosts : FnOK Proofs.Tryz.prog R_girolaw27_AuditPosts := fn_0 B_girolaw27_AuditPosts girolaw27_AuditPosts_ev

end Go.Ab.Gi
