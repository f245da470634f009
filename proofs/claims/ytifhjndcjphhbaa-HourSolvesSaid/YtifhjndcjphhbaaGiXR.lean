/- The shallow functions are what the program does, printed (abprint.py). -/
import Derived.Test.YtifhjndcjphhbaaGiXS
import Derived.Test.YtifhjndcjphhbaaProg
set_option linter.unusedVariables false
set_option maxRecDepth 100000
namespace Go.Ab.Gi

theorem mixed_orders : Proofs.Try.prog.follows .mixedOrders = true := by kernel_rfl

/-! ### giro/giroref13.Find -/
noncomputable def E1q : Env := ⟨Proofs.Try.prog, fun _ => false, sumsOf []⟩
def I1_0q : Spec := ⟨[(0, .c (.dat false y8q)), (1, .c (.int .i64)), (5, .c (.int .i64))], [], []⟩
def X0_1_0q : Spec := ⟨[], [], []⟩
def X1_1_0q : Spec := ⟨[(4, .c (.int .i64))], [], []⟩
def O1_0q : List (Ex × Spec) := [(.exit 0, X0_1_0q), (.ret, X1_1_0q)]
def c1_0q (f : giroref13_Find_L0T) (d : I1_0q.den) : Option (Unit ⊕ Int) := f d.1.1.1 d.1.2.1.1 d.1.2.2.1.1
def T1_0q : OutD O1_0q → (Unit ⊕ Int)
 | .inl d => .inl ()
 | .inr d => .inr d.1.1.1
def e1_0q : Elim (Unit ⊕ Int) := fun base x _ K => match x with
 | .inl x => K (.exit 0) (stOf base X0_1_0q ((), ()))
 | .inr x => K .ret (stOf base X1_1_0q (((x, ()), ()), ()))
def L1_0q : LoopSum := ⟨I1_0q, O1_0q, (Unit ⊕ Int), fun k d => c1_0q (giroref13_Find_L0 k k) d, e1_0q⟩
def A1q : Notes := ⟨[], [(2, L1_0q)]⟩
theorem B1q : EnvB E1q := env_n mixed_orders trivial
theorem st1_0q : StepOK E1q A1q 0 20 (loopAt (bodyOf Proofs.Try.f26) 0) I1_0q O1_0q T1_0q c1_0q giroref13_Find_L0b := by intro k rec d; kernel_rfl
theorem lk1_0q : LoopOK E1q.P 1000 0 20 (loopAt (bodyOf Proofs.Try.f26) 0) L1_0q := loop_b B1q st1_0q giroref13_Find_L0 e1_0q (by intro o R K; rcases o with o | o <;> rfl) loops0
def as1q : List AS := [.c (.dat false y8q), .c (.int .i64)]
def rs1q : RS := .c (.int .i64)
def pk1q : Int → RL rs1q.cells := fun x => (x, ())
def up1q : RL rs1q.cells → Int := fun d => d.1
def s1q (k : Nat) (d : AD as1q) := giroref13_Find k d.1 d.2.1
def R1q : Nat × Entry := (26, fun k nm args h => entry as1q rs1q (s1q k) pk1q nm args h)
theorem ev1q : EvOK E1q A1q 0 Proofs.Try.f26 as1q rs1q up1q s1q := by intro k d; kernel_rfl
theorem F1q : FnOK Proofs.Try.prog R1q := fn_b B1q ev1q (loops1 lk1_0q)

/-! ### giro/giroref13.ahead -/
noncomputable def E2q : Env := ⟨Proofs.Try.prog, fun _ => false, sumsOf []⟩
def A2q : Notes := ⟨[], []⟩
theorem B2q : EnvB E2q := env_n mixed_orders trivial
def as2q : List AS := [.agg [.int .i64, .int .i64, .int .i64, .int .i64, .int .i64, .int .i64, .int .i64], .agg [.int .i64, .int .i64, .int .i64, .int .i64, .int .i64, .int .i64, .int .i64]]
def rs2q : RS := .c (.bool)
def pk2q : Bool → RL rs2q.cells := fun x => (x, ())
def up2q : RL rs2q.cells → Bool := fun d => d.1
def s2q (k : Nat) (d : AD as2q) := giroref13_ahead k d.1 d.2.1 d.2.2.1 d.2.2.2.1 d.2.2.2.2.1 d.2.2.2.2.2.1 d.2.2.2.2.2.2.1 d.2.2.2.2.2.2.2.1 d.2.2.2.2.2.2.2.2.1 d.2.2.2.2.2.2.2.2.2.1 d.2.2.2.2.2.2.2.2.2.2.1 d.2.2.2.2.2.2.2.2.2.2.2.1 d.2.2.2.2.2.2.2.2.2.2.2.2.1 d.2.2.2.2.2.2.2.2.2.2.2.2.2.1
def R2q : Nat × Entry := (100, fun k nm args h => entry as2q rs2q (s2q k) pk2q nm args h)
theorem ev2q : EvOK E2q A2q 0 Proofs.Try.f100 as2q rs2q up2q s2q := by intro k d; kernel_rfl
theorem F2q : FnOK Proofs.Try.prog R2q := fn_0 B2q ev2q

/-! ### giro/giroref13.behind -/
noncomputable def E3q : Env := ⟨Proofs.Try.prog, fun _ => false, sumsOf [R2q]⟩
def I3_0q : Spec := ⟨[(0, .c (.dat false y8q)), (3, .c (.lit (.ptr 1001000 0))), (5, .c (.int .i64))], [.box true [.int .i64, .int .i64, .int .i64, .int .i64, .int .i64, .int .i64, .int .i64]], []⟩
def X0_3_0q : Spec := ⟨[(5, .c (.int .i64))], [], []⟩
def O3_0q : List (Ex × Spec) := [(.exit 0, X0_3_0q)]
def c3_0q (f : giroref13_behind_L0T) (d : I3_0q.den) : Option Int := f d.1.1.1 d.1.2.2.1.1 d.2.1.1 d.2.1.2.1 d.2.1.2.2.1 d.2.1.2.2.2.1 d.2.1.2.2.2.2.1 d.2.1.2.2.2.2.2.1 d.2.1.2.2.2.2.2.2.1
def T3_0q : OutD O3_0q → Int := fun d => d.1.1.1
def e3_0q : Elim Int := fun base x _ K => K (.exit 0) (stOf base X0_3_0q (((x, ()), ()), ()))
def L3_0q : LoopSum := ⟨I3_0q, O3_0q, Int, fun k d => c3_0q (giroref13_behind_L0 k k) d, e3_0q⟩
def A3q : Notes := ⟨[], [(2, L3_0q)]⟩
theorem B3q : EnvB E3q := env_n mixed_orders ⟨F2q, trivial⟩
theorem st3_0q : StepOK E3q A3q 0 21 (loopAt (bodyOf Proofs.Try.f68) 0) I3_0q O3_0q T3_0q c3_0q giroref13_behind_L0b := by intro k rec d; kernel_rfl
theorem lk3_0q : LoopOK E3q.P 1000 0 21 (loopAt (bodyOf Proofs.Try.f68) 0) L3_0q := loop_b B3q st3_0q giroref13_behind_L0 e3_0q (fun _ _ _ => rfl) loops0
def as3q : List AS := [.c (.dat false y8q), .agg [.int .i64, .int .i64, .int .i64, .int .i64, .int .i64, .int .i64, .int .i64]]
def rs3q : RS := .c (.int .i64)
def pk3q : Int → RL rs3q.cells := fun x => (x, ())
def up3q : RL rs3q.cells → Int := fun d => d.1
def s3q (k : Nat) (d : AD as3q) := giroref13_behind k d.1 d.2.1 d.2.2.1 d.2.2.2.1 d.2.2.2.2.1 d.2.2.2.2.2.1 d.2.2.2.2.2.2.1 d.2.2.2.2.2.2.2.1
def R3q : Nat × Entry := (68, fun k nm args h => entry as3q rs3q (s3q k) pk3q nm args h)
theorem ev3q : EvOK E3q A3q 0 Proofs.Try.f68 as3q rs3q up3q s3q := by intro k d; kernel_rfl
theorem F3q : FnOK Proofs.Try.prog R3q := fn_b B3q ev3q (loops1 lk3_0q)

/-! ### giro/giroref13.insert -/
noncomputable def E4q : Env := ⟨Proofs.Try.prog, fun _ => false, sumsOf []⟩
def A4q : Notes := ⟨[], []⟩
theorem B4q : EnvB E4q := env_n mixed_orders trivial
def as4q : List AS := [.c (.dat false y8q), .c (.int .i64), .agg [.int .i64, .int .i64, .int .i64, .int .i64, .int .i64, .int .i64, .int .i64]]
def rs4q : RS := .c (.own y8q)
def pk4q : List K2q → RL rs4q.cells := fun x => (x, ())
def up4q : RL rs4q.cells → List K2q := fun d => d.1
def s4q (k : Nat) (d : AD as4q) := giroref13_insert k d.1 d.2.1 d.2.2.1 d.2.2.2.1 d.2.2.2.2.1 d.2.2.2.2.2.1 d.2.2.2.2.2.2.1 d.2.2.2.2.2.2.2.1 d.2.2.2.2.2.2.2.2.1
def R4q : Nat × Entry := (67, fun k nm args h => entry as4q rs4q (s4q k) pk4q nm args h)
theorem ev4q : EvOK E4q A4q 0 Proofs.Try.f67 as4q rs4q up4q s4q := by intro k d; kernel_rfl
theorem F4q : FnOK Proofs.Try.prog R4q := fn_0 B4q ev4q

/-! ### giro/giroref13.Put -/
noncomputable def E5q : Env := ⟨Proofs.Try.prog, fun _ => false, sumsOf [R1q, R3q, R4q]⟩
def A5q : Notes := ⟨[], []⟩
theorem B5q : EnvB E5q := env_n mixed_orders ⟨F1q, F3q, F4q, trivial⟩
def as5q : List AS := [.c (.dat true y8q), .agg [.int .i64, .int .i64, .int .i64, .int .i64, .int .i64, .int .i64, .int .i64]]
def rs5q : RS := .tup [(false, [.fro y8q]), (false, [.int .i64])]
def pk5q : (List K2q) × Int → RL rs5q.cells := fun x => (x.1, x.2, ())
def up5q : RL rs5q.cells → (List K2q) × Int := fun d => (d.1, d.2.1)
def s5q (k : Nat) (d : AD as5q) := giroref13_Put k d.1 d.2.1 d.2.2.1 d.2.2.2.1 d.2.2.2.2.1 d.2.2.2.2.2.1 d.2.2.2.2.2.2.1 d.2.2.2.2.2.2.2.1
def R5q : Nat × Entry := (36, fun k nm args h => entry as5q rs5q (s5q k) pk5q nm args h)
theorem ev5q : EvOK E5q A5q 0 Proofs.Try.f36 as5q rs5q up5q s5q := by intro k d; kernel_rfl
theorem F5q : FnOK Proofs.Try.prog R5q := fn_0 B5q ev5q

/-! ### giro/pay.Ready -/
noncomputable def E7q : Env := ⟨Proofs.Try.prog, fun _ => false, sumsOf []⟩
def A7q : Notes := ⟨[], []⟩
theorem B7q : EnvB E7q := env_n mixed_orders trivial
def as7q : List AS := [.agg [.int .i64, .int .i64, .int .i64, .int .i64, .int .i64, .int .i64, .int .i64], .c (.int .i64)]
def rs7q : RS := .c (.bool)
def pk7q : Bool → RL rs7q.cells := fun x => (x, ())
def up7q : RL rs7q.cells → Bool := fun d => d.1
def s7q (k : Nat) (d : AD as7q) := pay_Ready k d.1 d.2.1 d.2.2.1 d.2.2.2.1 d.2.2.2.2.1 d.2.2.2.2.2.1 d.2.2.2.2.2.2.1 d.2.2.2.2.2.2.2.1
def R7q : Nat × Entry := (76, fun k nm args h => entry as7q rs7q (s7q k) pk7q nm args h)
theorem ev7q : EvOK E7q A7q 0 Proofs.Try.f76 as7q rs7q up7q s7q := by intro k d; kernel_rfl
theorem F7q : FnOK Proofs.Try.prog R7q := fn_0 B7q ev7q

/-! ### giro/view.Ready$1 -/
noncomputable def E8q : Env := ⟨Proofs.Try.prog, fun _ => false, sumsOf [R7q]⟩
def A8q : Notes := ⟨[], []⟩
theorem B8q : EnvB E8q := env_n mixed_orders ⟨F7q, trivial⟩
def as8q : List AS := [.agg [.int .i64, .int .i64, .int .i64, .int .i64, .int .i64, .int .i64, .int .i64], .ptr [.int .i64]]
def rs8q : RS := .c (.bool)
def pk8q : Bool → RL rs8q.cells := fun x => (x, ())
def up8q : RL rs8q.cells → Bool := fun d => d.1
def s8q (k : Nat) (d : AD as8q) := view_Ready_fn1 k d.1 d.2.1 d.2.2.1 d.2.2.2.1 d.2.2.2.2.1 d.2.2.2.2.2.1 d.2.2.2.2.2.2.1 d.2.2.2.2.2.2.2.1
def R8q : Nat × Entry := (75, fun k nm args h => entry as8q rs8q (s8q k) pk8q nm args h)
theorem ev8q : EvOK E8q A8q 0 Proofs.Try.f75 as8q rs8q up8q s8q := by intro k d; kernel_rfl
theorem F8q : FnOK Proofs.Try.prog R8q := fn_0 B8q ev8q

/-! ### giro/view.all -/
noncomputable def E9q : Env := ⟨Proofs.Try.prog, fun _ => false, sumsOf [R8q]⟩
def I9_0q : Spec := ⟨[(1, .c (.lit (.fn 75 [1001000]))), (5, .c (.lit (.osl 1001001 none))), (8, .c (.dat false y8q)), (9, .c (.int .i64)), (10, .c (.int .i64))], [.robox [.int .i64], .arr true y8q], [(5, none, y8q, false)]⟩
def X0_9_0q : Spec := ⟨[(5, .c (.lit (.osl 1001000 none)))], [.arr true y8q], []⟩
def O9_0q : List (Ex × Spec) := [(.exit 0, X0_9_0q)]
def c9_0q (f : view_all__view_Ready_fn1_L0T) (d : I9_0q.den) : Option view_all__view_Ready_fn1_L0X := f d.1.2.2.1.1 d.1.2.2.2.1.1 d.1.2.2.2.2.1.1 d.2.1.1 d.2.2.1
def T9_0q : OutD O9_0q → view_all__view_Ready_fn1_L0X := fun d => d.2.1
def e9_0q : Elim view_all__view_Ready_fn1_L0X := fun base x _ K => K (.exit 0) (stOf base X0_9_0q (((), ()), (x, ())))
def L9_0q : LoopSum := ⟨I9_0q, O9_0q, view_all__view_Ready_fn1_L0X, fun k d => c9_0q (view_all__view_Ready_fn1_L0 k k) d, e9_0q⟩
def A9q : Notes := ⟨[], [(3, L9_0q)]⟩
theorem B9q : EnvB E9q := env_n mixed_orders ⟨F8q, trivial⟩
theorem st9_0q : StepOK E9q A9q 0 23 (loopAt (bodyOf Proofs.Try.f74) 0) I9_0q O9_0q T9_0q c9_0q view_all__view_Ready_fn1_L0b := by intro k rec d; kernel_rfl
theorem lk9_0q : LoopOK E9q.P 1000 0 23 (loopAt (bodyOf Proofs.Try.f74) 0) L9_0q := loop_b B9q st9_0q view_all__view_Ready_fn1_L0 e9_0q (fun _ _ _ => rfl) loops0
def as9q : List AS := [.c (.dat false y8q), .fn 75 [[.int .i64]]]
def rs9q : RS := .c (.own y8q)
def pk9q : List K2q → RL rs9q.cells := fun x => (x, ())
def up9q : RL rs9q.cells → List K2q := fun d => d.1
def s9q (k : Nat) (d : AD as9q) := view_all__view_Ready_fn1 k d.1 d.2.1
def R9q : Nat × Entry := (74, fun k nm args h => entry as9q rs9q (s9q k) pk9q nm args h)
theorem ev9q : EvOK E9q A9q 0 Proofs.Try.f74 as9q rs9q up9q s9q := by intro k d; kernel_rfl
theorem F9q : FnOK Proofs.Try.prog R9q := fn_b B9q ev9q (loops1 lk9_0q)

/-! ### giro/view.Ready -/
noncomputable def E10q : Env := ⟨Proofs.Try.prog, fun _ => false, sumsOf [R9q]⟩
def A10q : Notes := ⟨[], []⟩
theorem B10q : EnvB E10q := env_n mixed_orders ⟨F9q, trivial⟩
def as10q : List AS := [.c (.dat false y8q), .c (.int .i64)]
def rs10q : RS := .c (.own y8q)
def pk10q : List K2q → RL rs10q.cells := fun x => (x, ())
def up10q : RL rs10q.cells → List K2q := fun d => d.1
def s10q (k : Nat) (d : AD as10q) := view_Ready k d.1 d.2.1
def R10q : Nat × Entry := (38, fun k nm args h => entry as10q rs10q (s10q k) pk10q nm args h)
theorem ev10q : EvOK E10q A10q 0 Proofs.Try.f38 as10q rs10q up10q s10q := by intro k d; kernel_rfl
theorem F10q : FnOK Proofs.Try.prog R10q := fn_0 B10q ev10q

/-! ### giro/view.Of$1 -/
noncomputable def E11q : Env := ⟨Proofs.Try.prog, fun _ => false, sumsOf []⟩
def A11q : Notes := ⟨[], []⟩
theorem B11q : EnvB E11q := env_n mixed_orders trivial
def as11q : List AS := [.agg [.int .i64, .int .i64, .int .i64, .int .i64, .int .i64, .int .i64, .int .i64], .ptr [.int .i64]]
def rs11q : RS := .c (.bool)
def pk11q : Bool → RL rs11q.cells := fun x => (x, ())
def up11q : RL rs11q.cells → Bool := fun d => d.1
def s11q (k : Nat) (d : AD as11q) := view_Of_fn1 k d.1 d.2.1 d.2.2.1 d.2.2.2.1 d.2.2.2.2.1 d.2.2.2.2.2.1 d.2.2.2.2.2.2.1 d.2.2.2.2.2.2.2.1
def R11q : Nat × Entry := (77, fun k nm args h => entry as11q rs11q (s11q k) pk11q nm args h)
theorem ev11q : EvOK E11q A11q 0 Proofs.Try.f77 as11q rs11q up11q s11q := by intro k d; kernel_rfl
theorem F11q : FnOK Proofs.Try.prog R11q := fn_0 B11q ev11q

/-! ### giro/view.all -/
noncomputable def E12q : Env := ⟨Proofs.Try.prog, fun _ => false, sumsOf [R11q]⟩
def I12_0q : Spec := ⟨[(1, .c (.lit (.fn 77 [1001000]))), (5, .c (.lit (.osl 1001001 none))), (8, .c (.dat false y8q)), (9, .c (.int .i64)), (10, .c (.int .i64))], [.robox [.int .i64], .arr true y8q], [(5, none, y8q, false)]⟩
def X0_12_0q : Spec := ⟨[(5, .c (.lit (.osl 1001000 none)))], [.arr true y8q], []⟩
def O12_0q : List (Ex × Spec) := [(.exit 0, X0_12_0q)]
def c12_0q (f : view_all__view_Of_fn1_L0T) (d : I12_0q.den) : Option view_all__view_Of_fn1_L0X := f d.1.2.2.1.1 d.1.2.2.2.1.1 d.1.2.2.2.2.1.1 d.2.1.1 d.2.2.1
def T12_0q : OutD O12_0q → view_all__view_Of_fn1_L0X := fun d => d.2.1
def e12_0q : Elim view_all__view_Of_fn1_L0X := fun base x _ K => K (.exit 0) (stOf base X0_12_0q (((), ()), (x, ())))
def L12_0q : LoopSum := ⟨I12_0q, O12_0q, view_all__view_Of_fn1_L0X, fun k d => c12_0q (view_all__view_Of_fn1_L0 k k) d, e12_0q⟩
def A12q : Notes := ⟨[], [(3, L12_0q)]⟩
theorem B12q : EnvB E12q := env_n mixed_orders ⟨F11q, trivial⟩
theorem st12_0q : StepOK E12q A12q 0 23 (loopAt (bodyOf Proofs.Try.f74) 0) I12_0q O12_0q T12_0q c12_0q view_all__view_Of_fn1_L0b := by intro k rec d; kernel_rfl
theorem lk12_0q : LoopOK E12q.P 1000 0 23 (loopAt (bodyOf Proofs.Try.f74) 0) L12_0q := loop_b B12q st12_0q view_all__view_Of_fn1_L0 e12_0q (fun _ _ _ => rfl) loops0
def as12q : List AS := [.c (.dat false y8q), .fn 77 [[.int .i64]]]
def rs12q : RS := .c (.own y8q)
def pk12q : List K2q → RL rs12q.cells := fun x => (x, ())
def up12q : RL rs12q.cells → List K2q := fun d => d.1
def s12q (k : Nat) (d : AD as12q) := view_all__view_Of_fn1 k d.1 d.2.1
def R12q : Nat × Entry := (74, fun k nm args h => entry as12q rs12q (s12q k) pk12q nm args h)
theorem ev12q : EvOK E12q A12q 0 Proofs.Try.f74 as12q rs12q up12q s12q := by intro k d; kernel_rfl
theorem F12q : FnOK Proofs.Try.prog R12q := fn_b B12q ev12q (loops1 lk12_0q)

/-! ### giro/view.Of -/
noncomputable def E13q : Env := ⟨Proofs.Try.prog, fun _ => false, sumsOf [R12q]⟩
def A13q : Notes := ⟨[], []⟩
theorem B13q : EnvB E13q := env_n mixed_orders ⟨F12q, trivial⟩
def as13q : List AS := [.c (.dat false y8q), .c (.int .i64)]
def rs13q : RS := .c (.own y8q)
def pk13q : List K2q → RL rs13q.cells := fun x => (x, ())
def up13q : RL rs13q.cells → List K2q := fun d => d.1
def s13q (k : Nat) (d : AD as13q) := view_Of k d.1 d.2.1
def R13q : Nat × Entry := (39, fun k nm args h => entry as13q rs13q (s13q k) pk13q nm args h)
theorem ev13q : EvOK E13q A13q 0 Proofs.Try.f39 as13q rs13q up13q s13q := by intro k d; kernel_rfl
theorem F13q : FnOK Proofs.Try.prog R13q := fn_0 B13q ev13q

/-! ### slices.Clone[[]int,int] -/
noncomputable def E14q : Env := ⟨Proofs.Try.prog, fun _ => false, sumsOf []⟩
def A14q : Notes := ⟨[], []⟩
theorem B14q : EnvB E14q := env_n mixed_orders trivial
def as14q : List AS := [.c (.dat false (.int .i64))]
def rs14q : RS := .c (.own (.int .i64))
def pk14q : List Int → RL rs14q.cells := fun x => (x, ())
def up14q : RL rs14q.cells → List Int := fun d => d.1
def s14q (k : Nat) (d : AD as14q) := slices_Clone_int k d.1
def R14q : Nat × Entry := (82, fun k nm args h => entry as14q rs14q (fun d => slices_Clone_int k d.1) pk14q nm args h)
theorem nil14q (k : Nat) : evF E14q A14q k 1000 0 Proofs.Try.f82 [.c .nsl] (boxHp []) (outM rs14q up14q) = slices_Clone_int k [] := by kernel_rfl
theorem ev14q (k : Nat) (xs : List Int) : evF E14q A14q k 1000 0 Proofs.Try.f82 [.c (.nfl false (.int .i64) xs)] (boxHp []) (outM rs14q up14q) = slices_Clone_int k xs := by kernel_rfl
theorem F14q : FnOK Proofs.Try.prog R14q := fn_nil (t := (.int .i64)) (S := slices_Clone_int) (unpack := up14q) B14q nil14q ev14q loops0

/-! ### giro/view.Heads$1 -/
noncomputable def E15q : Env := ⟨Proofs.Try.prog, fun _ => false, sumsOf []⟩
def A15q : Notes := ⟨[], []⟩
theorem B15q : EnvB E15q := env_n mixed_orders trivial
def as15q : List AX := [.agg [.int .i64, .int .i64, .int .i64, .int .i64, .int .i64, .int .i64, .int .i64], .ptr true [.own (.int .i64)]]
def rs15q : RS := .c (.bool)
def os15q : List (List RC) := [[.own (.int .i64)]]
def pk15q : Bool × (List Int) → RL (rs15q.cells ++ os15q.flatten) := fun x => (x.1, x.2, ())
def up15q : RL (rs15q.cells ++ os15q.flatten) → Bool × (List Int) := fun d => (d.1, d.2.1)
def s15q (k : Nat) (d : XD as15q) := view_Heads_fn1 k d.1 d.2.1 d.2.2.1 d.2.2.2.1 d.2.2.2.2.1 d.2.2.2.2.2.1 d.2.2.2.2.2.2.1 d.2.2.2.2.2.2.2.1
def R15q : Nat × Entry := (83, fun k nm args h => entryX as15q rs15q os15q (s15q k) pk15q nm args h)
theorem ev15q : EvOKX E15q A15q 2 Proofs.Try.f83 as15q rs15q os15q up15q s15q := by intro k d; kernel_rfl
theorem F15q : FnOK Proofs.Try.prog R15q := fn_x B15q ev15q loops0

/-! ### giro/view.all -/
noncomputable def E16q : Env := ⟨Proofs.Try.prog, fun _ => false, sumsOf [R15q]⟩
def I16_0q : Spec := ⟨[(1, .c (.lit (.fn 83 [1001000]))), (5, .c (.lit (.osl 1001002 none))), (8, .c (.dat false y8q)), (9, .c (.int .i64)), (10, .c (.int .i64))], [.box true [.lit (.osl 1001001 none)], .arr true (.int .i64), .arr true y8q], [(5, none, y8q, false)]⟩
def X0_16_0q : Spec := ⟨[(1, .c (.lit (.fn 83 [1001000]))), (5, .c (.lit (.osl 1001002 none)))], [.box true [.lit (.osl 1001001 none)], .arr true (.int .i64), .arr true y8q], []⟩
def O16_0q : List (Ex × Spec) := [(.exit 0, X0_16_0q)]
def c16_0q (f : view_all__view_Heads_fn1_L0T) (d : I16_0q.den) : Option view_all__view_Heads_fn1_L0X := f d.1.2.2.1.1 d.1.2.2.2.1.1 d.1.2.2.2.2.1.1 d.2.2.1 d.2.2.2.1
def T16_0q : OutD O16_0q → view_all__view_Heads_fn1_L0X := fun d => (d.2.2.1, d.2.2.2.1)
def e16_0q : Elim view_all__view_Heads_fn1_L0X := fun base x _ K => K (.exit 0) (stOf base X0_16_0q (((), (), ()), ((), x.1, x.2, ())))
def L16_0q : LoopSum := ⟨I16_0q, O16_0q, view_all__view_Heads_fn1_L0X, fun k d => c16_0q (view_all__view_Heads_fn1_L0 k k) d, e16_0q⟩
def A16q : Notes := ⟨[], [(3, L16_0q)]⟩
theorem B16q : EnvB E16q := env_n mixed_orders ⟨F15q, trivial⟩
theorem st16_0q : StepOK E16q A16q 2 23 (loopAt (bodyOf Proofs.Try.f74) 0) I16_0q O16_0q T16_0q c16_0q view_all__view_Heads_fn1_L0b := by intro k rec d; kernel_rfl
theorem lk16_0q : LoopOK E16q.P 1000 2 23 (loopAt (bodyOf Proofs.Try.f74) 0) L16_0q := loop_b B16q st16_0q view_all__view_Heads_fn1_L0 e16_0q (fun _ _ _ => rfl) loops0
def as16q : List AX := [.c (.p (.dat false y8q)), .fn 83 [(true, [.own (.int .i64)])]]
def rs16q : RS := .c (.own y8q)
def os16q : List (List RC) := [[.own (.int .i64)]]
def pk16q : (List K2q) × (List Int) → RL (rs16q.cells ++ os16q.flatten) := fun x => (x.1, x.2, ())
def up16q : RL (rs16q.cells ++ os16q.flatten) → (List K2q) × (List Int) := fun d => (d.1, d.2.1)
def s16q (k : Nat) (d : XD as16q) := view_all__view_Heads_fn1 k d.1 d.2.1
def R16q : Nat × Entry := (74, fun k nm args h => entryX as16q rs16q os16q (s16q k) pk16q nm args h)
theorem ev16q : EvOKX E16q A16q 2 Proofs.Try.f74 as16q rs16q os16q up16q s16q := by intro k d; kernel_rfl
theorem F16q : FnOK Proofs.Try.prog R16q := fn_x B16q ev16q (loops1 lk16_0q)

/-! ### giro/view.Heads -/
noncomputable def E17q : Env := ⟨Proofs.Try.prog, fun _ => false, sumsOf [R14q, R16q]⟩
def A17q : Notes := ⟨[], []⟩
theorem B17q : EnvB E17q := env_n mixed_orders ⟨F14q, F16q, trivial⟩
def as17q : List AS := [.c (.dat false y8q), .c (.dat false (.int .i64))]
def rs17q : RS := .c (.own y8q)
def pk17q : List K2q → RL rs17q.cells := fun x => (x, ())
def up17q : RL rs17q.cells → List K2q := fun d => d.1
def s17q (k : Nat) (d : AD as17q) := view_Heads k d.1 d.2.1
def R17q : Nat × Entry := (41, fun k nm args h => entry as17q rs17q (s17q k) pk17q nm args h)
theorem ev17q : EvOK E17q A17q 0 Proofs.Try.f41 as17q rs17q up17q s17q := by intro k d; kernel_rfl
theorem F17q : FnOK Proofs.Try.prog R17q := fn_0 B17q ev17q

/-! ### giro/lim.isSize -/
noncomputable def E18q : Env := ⟨Proofs.Try.prog, fun _ => false, sumsOf []⟩
def A18q : Notes := ⟨[], []⟩
theorem B18q : EnvB E18q := env_n mixed_orders trivial
def as18q : List AS := [.c (.int .i64)]
def rs18q : RS := .c (.bool)
def pk18q : Bool → RL rs18q.cells := fun x => (x, ())
def up18q : RL rs18q.cells → Bool := fun d => d.1
def s18q (k : Nat) (d : AD as18q) := lim_isSize k d.1
def R18q : Nat × Entry := (122, fun k nm args h => entry as18q rs18q (s18q k) pk18q nm args h)
theorem ev18q : EvOK E18q A18q 0 Proofs.Try.f122 as18q rs18q up18q s18q := by intro k d; kernel_rfl
theorem F18q : FnOK Proofs.Try.prog R18q := fn_0 B18q ev18q

/-! ### giro/lim.Row -/
noncomputable def E19q : Env := ⟨Proofs.Try.prog, fun _ => false, sumsOf [R18q]⟩
def I19_0q : Spec := ⟨[(1, .c (.int .i64)), (5, .c (.lit (.osl 1001000 none))), (13, .c (.int .i64)), (14, .c (.int .i64))], [.arr true (.int .i64)], []⟩
def X0_19_0q : Spec := ⟨[(5, .c (.lit (.osl 1001000 none)))], [.arr true (.int .i64)], []⟩
def O19_0q : List (Ex × Spec) := [(.exit 0, X0_19_0q)]
def c19_0q (f : lim_Row_L0T) (d : I19_0q.den) : Option (List Int) := f d.1.1.1 d.1.2.2.1.1 d.1.2.2.2.1.1 d.2.1
def T19_0q : OutD O19_0q → (List Int) := fun d => d.2.1
def e19_0q : Elim (List Int) := fun base x _ K => K (.exit 0) (stOf base X0_19_0q (((), ()), (x, ())))
def L19_0q : LoopSum := ⟨I19_0q, O19_0q, (List Int), fun k d => c19_0q (lim_Row_L0 k k) d, e19_0q⟩
def A19q : Notes := ⟨[], [(5, L19_0q)]⟩
theorem B19q : EnvB E19q := env_n mixed_orders ⟨F18q, trivial⟩
theorem st19_0q : StepOK E19q A19q 0 23 (loopAt (bodyOf Proofs.Try.f101) 0) I19_0q O19_0q T19_0q c19_0q lim_Row_L0b := by intro k rec d; kernel_rfl
theorem lk19_0q : LoopOK E19q.P 1000 0 23 (loopAt (bodyOf Proofs.Try.f101) 0) L19_0q := loop_b B19q st19_0q lim_Row_L0 e19_0q (fun _ _ _ => rfl) loops0
def as19q : List AS := [.c (.int .i64), .c (.int .i64)]
def rs19q : RS := .c (.own (.int .i64))
def pk19q : List Int → RL rs19q.cells := fun x => (x, ())
def up19q : RL rs19q.cells → List Int := fun d => d.1
def s19q (k : Nat) (d : AD as19q) := lim_Row k d.1 d.2.1
def R19q : Nat × Entry := (101, fun k nm args h => entry as19q rs19q (s19q k) pk19q nm args h)
theorem ev19q : EvOK E19q A19q 0 Proofs.Try.f101 as19q rs19q up19q s19q := by intro k d; kernel_rfl
theorem F19q : FnOK Proofs.Try.prog R19q := fn_b B19q ev19q (loops1 lk19_0q)

/-! ### giro/lim.Square -/
noncomputable def E20q : Env := ⟨Proofs.Try.prog, fun _ => false, sumsOf [R18q, R19q]⟩
def I20_0q : Spec := ⟨[(0, .c (.int .i64)), (1, .c (.int .i64)), (5, .c (.lit (.osl 1001000 none))), (13, .c (.int .i64)), (14, .c (.int .i64))], [.mat], []⟩
def X0_20_0q : Spec := ⟨[(5, .c (.lit (.osl 1001000 none)))], [.mat], []⟩
def O20_0q : List (Ex × Spec) := [(.exit 0, X0_20_0q)]
def c20_0q (f : lim_Square_L0T) (d : I20_0q.den) : Option (List (List Int)) := f d.1.1.1 d.1.2.1.1 d.1.2.2.2.1.1 d.1.2.2.2.2.1.1 d.2.1
def T20_0q : OutD O20_0q → (List (List Int)) := fun d => d.2.1
def e20_0q : Elim (List (List Int)) := fun base x _ K => K (.exit 0) (stOf base X0_20_0q (((), ()), (x, ())))
def L20_0q : LoopSum := ⟨I20_0q, O20_0q, (List (List Int)), fun k d => c20_0q (lim_Square_L0 k k) d, e20_0q⟩
def A20q : Notes := ⟨[11], [(5, L20_0q)]⟩
theorem B20q : EnvB E20q := env_n mixed_orders ⟨F18q, F19q, trivial⟩
theorem st20_0q : StepOK E20q A20q 0 25 (loopAt (bodyOf Proofs.Try.f102) 0) I20_0q O20_0q T20_0q c20_0q lim_Square_L0b := by intro k rec d; kernel_rfl
theorem lk20_0q : LoopOK E20q.P 1000 0 25 (loopAt (bodyOf Proofs.Try.f102) 0) L20_0q := loop_b B20q st20_0q lim_Square_L0 e20_0q (fun _ _ _ => rfl) loops0
def as20q : List AS := [.c (.int .i64), .c (.int .i64)]
def rs20q : RS := .c (.mat)
def pk20q : List (List Int) → RL rs20q.cells := fun x => (x, ())
def up20q : RL rs20q.cells → List (List Int) := fun d => d.1
def s20q (k : Nat) (d : AD as20q) := lim_Square k d.1 d.2.1
def R20q : Nat × Entry := (102, fun k nm args h => entry as20q rs20q (s20q k) pk20q nm args h)
theorem ev20q : EvOK E20q A20q 0 Proofs.Try.f102 as20q rs20q up20q s20q := by intro k d; kernel_rfl
theorem F20q : FnOK Proofs.Try.prog R20q := fn_b B20q ev20q (loops1 lk20_0q)

/-! ### giro/fits.moved -/
noncomputable def E21q : Env := ⟨Proofs.Try.prog, fun _ => false, sumsOf [R19q, R20q]⟩
def I21_0q : Spec := ⟨[(4, .c (.lit (.ptr 1001000 0))), (5, .c (.lit (.ptr 1001001 0))), (15, .c (.dat false y8q)), (16, .c (.int .i64)), (17, .c (.int .i64))], [.box true [.lit .nsl, .lit .nsl, .lit .nsl], .box true [.lit (.osl 1001002 none), .lit (.osl 1001003 none), .lit (.osl 1001004 none)], .arr true (.int .i64), .arr true (.int .i64), .mat], []⟩
def X0_21_0q : Spec := ⟨[(4, .c (.lit (.ptr 1001000 0))), (5, .c (.lit (.ptr 1001001 0)))], [.box true [.lit .nsl, .lit .nsl, .lit .nsl], .box true [.lit (.osl 1001002 none), .lit (.osl 1001003 none), .lit (.osl 1001004 none)], .arr true (.int .i64), .arr true (.int .i64), .mat], []⟩
def O21_0q : List (Ex × Spec) := [(.exit 0, X0_21_0q)]
def c21_0q (f : fits_moved_L0T) (d : I21_0q.den) : Option fits_moved_L0X := f d.1.2.2.1.1 d.1.2.2.2.1.1 d.1.2.2.2.2.1.1 d.2.2.2.1 d.2.2.2.2.1 d.2.2.2.2.2.1
def T21_0q : OutD O21_0q → fits_moved_L0X := fun d => (d.2.2.2.1, d.2.2.2.2.1, d.2.2.2.2.2.1)
def e21_0q : Elim fits_moved_L0X := fun base x _ K => K (.exit 0) (stOf base X0_21_0q (((), (), ()), ((), (), x.1, x.2.1, x.2.2, ())))
def L21_0q : LoopSum := ⟨I21_0q, O21_0q, fits_moved_L0X, fun k d => c21_0q (fits_moved_L0 k k) d, e21_0q⟩
def A21q : Notes := ⟨[], [(3, L21_0q)]⟩
theorem B21q : EnvB E21q := env_n mixed_orders ⟨F19q, F20q, trivial⟩
theorem st21_0q : StepOK E21q A21q 0 84 (loopAt (bodyOf Proofs.Try.f78) 0) I21_0q O21_0q T21_0q c21_0q fits_moved_L0b := by intro k rec d; kernel_rfl
theorem lk21_0q : LoopOK E21q.P 1000 0 84 (loopAt (bodyOf Proofs.Try.f78) 0) L21_0q := loop_b B21q st21_0q fits_moved_L0 e21_0q (fun _ _ _ => rfl) loops0
def as21q : List AS := [.c (.int .i64), .c (.dat false y8q)]
def rs21q : RS := .agg [.own (.int .i64), .own (.int .i64), .mat]
def pk21q : (List Int) × (List Int) × (List (List Int)) → RL rs21q.cells := fun x => (x.1, x.2.1, x.2.2, ())
def up21q : RL rs21q.cells → (List Int) × (List Int) × (List (List Int)) := fun d => (d.1, d.2.1, d.2.2.1)
def s21q (k : Nat) (d : AD as21q) := fits_moved k d.1 d.2.1
def R21q : Nat × Entry := (78, fun k nm args h => entry as21q rs21q (s21q k) pk21q nm args h)
theorem ev21q : EvOK E21q A21q 0 Proofs.Try.f78 as21q rs21q up21q s21q := by intro k d; kernel_rfl
theorem F21q : FnOK Proofs.Try.prog R21q := fn_b B21q ev21q (loops1 lk21_0q)

/-! ### giro/fits.Short$1 -/
noncomputable def E22q : Env := ⟨Proofs.Try.prog, fun _ => false, sumsOf []⟩
def A22q : Notes := ⟨[], []⟩
theorem B22q : EnvB E22q := env_n mixed_orders trivial
def as22q : List AS := [.agg [.int .i64, .int .i64, .int .i64, .int .i64, .int .i64, .int .i64, .int .i64], .ptr [.int .i64]]
def rs22q : RS := .c (.bool)
def pk22q : Bool → RL rs22q.cells := fun x => (x, ())
def up22q : RL rs22q.cells → Bool := fun d => d.1
def s22q (k : Nat) (d : AD as22q) := fits_Short_fn1 k d.1 d.2.1 d.2.2.1 d.2.2.2.1 d.2.2.2.2.1 d.2.2.2.2.2.1 d.2.2.2.2.2.2.1 d.2.2.2.2.2.2.2.1
def R22q : Nat × Entry := (80, fun k nm args h => entry as22q rs22q (s22q k) pk22q nm args h)
theorem ev22q : EvOK E22q A22q 0 Proofs.Try.f80 as22q rs22q up22q s22q := by intro k d; kernel_rfl
theorem F22q : FnOK Proofs.Try.prog R22q := fn_0 B22q ev22q

/-! ### slices.IndexFunc[[]giro/api.Pay,giro/api.Pay] -/
noncomputable def E23q : Env := ⟨Proofs.Try.prog, fun _ => false, sumsOf [R22q]⟩
def I23_0q : Spec := ⟨[(0, .c (.dat false y8q)), (1, .c (.lit (.fn 80 [1001000]))), (7, .c (.int .i64)), (8, .c (.int .i64))], [.robox [.int .i64]], []⟩
def X0_23_0q : Spec := ⟨[], [], []⟩
def X1_23_0q : Spec := ⟨[(4, .c (.int .i64))], [], []⟩
def O23_0q : List (Ex × Spec) := [(.exit 0, X0_23_0q), (.ret, X1_23_0q)]
def c23_0q (f : slices_IndexFunc_Pay__fits_Short_fn1_L0T) (d : I23_0q.den) : Option (Unit ⊕ Int) := f d.1.1.1 d.1.2.2.1.1 d.1.2.2.2.1.1 d.2.1.1
def T23_0q : OutD O23_0q → (Unit ⊕ Int)
 | .inl d => .inl ()
 | .inr d => .inr d.1.1.1
def e23_0q : Elim (Unit ⊕ Int) := fun base x _ K => match x with
 | .inl x => K (.exit 0) (stOf base X0_23_0q ((), ()))
 | .inr x => K .ret (stOf base X1_23_0q (((x, ()), ()), ()))
def L23_0q : LoopSum := ⟨I23_0q, O23_0q, (Unit ⊕ Int), fun k d => c23_0q (slices_IndexFunc_Pay__fits_Short_fn1_L0 k k) d, e23_0q⟩
def A23q : Notes := ⟨[], [(2, L23_0q)]⟩
theorem B23q : EnvB E23q := env_n mixed_orders ⟨F22q, trivial⟩
theorem st23_0q : StepOK E23q A23q 0 19 (loopAt (bodyOf Proofs.Try.f103) 0) I23_0q O23_0q T23_0q c23_0q slices_IndexFunc_Pay__fits_Short_fn1_L0b := by intro k rec d; kernel_rfl
theorem lk23_0q : LoopOK E23q.P 1000 0 19 (loopAt (bodyOf Proofs.Try.f103) 0) L23_0q := loop_b B23q st23_0q slices_IndexFunc_Pay__fits_Short_fn1_L0 e23_0q (by intro o R K; rcases o with o | o <;> rfl) loops0
def as23q : List AS := [.c (.dat false y8q), .fn 80 [[.int .i64]]]
def rs23q : RS := .c (.int .i64)
def pk23q : Int → RL rs23q.cells := fun x => (x, ())
def up23q : RL rs23q.cells → Int := fun d => d.1
def s23q (k : Nat) (d : AD as23q) := slices_IndexFunc_Pay__fits_Short_fn1 k d.1 d.2.1
def R23q : Nat × Entry := (103, fun k nm args h => entry as23q rs23q (s23q k) pk23q nm args h)
theorem ev23q : EvOK E23q A23q 0 Proofs.Try.f103 as23q rs23q up23q s23q := by intro k d; kernel_rfl
theorem F23q : FnOK Proofs.Try.prog R23q := fn_b B23q ev23q (loops1 lk23_0q)

/-! ### slices.ContainsFunc[[]giro/api.Pay,giro/api.Pay] -/
noncomputable def E24q : Env := ⟨Proofs.Try.prog, fun _ => false, sumsOf [R23q]⟩
def A24q : Notes := ⟨[], []⟩
theorem B24q : EnvB E24q := env_n mixed_orders ⟨F23q, trivial⟩
def as24q : List AS := [.c (.dat false y8q), .fn 80 [[.int .i64]]]
def rs24q : RS := .c (.bool)
def pk24q : Bool → RL rs24q.cells := fun x => (x, ())
def up24q : RL rs24q.cells → Bool := fun d => d.1
def s24q (k : Nat) (d : AD as24q) := slices_ContainsFunc_Pay__fits_Short_fn1 k d.1 d.2.1
def R24q : Nat × Entry := (79, fun k nm args h => entry as24q rs24q (s24q k) pk24q nm args h)
theorem ev24q : EvOK E24q A24q 0 Proofs.Try.f79 as24q rs24q up24q s24q := by intro k d; kernel_rfl
theorem F24q : FnOK Proofs.Try.prog R24q := fn_0 B24q ev24q

/-! ### giro/lim.Net -/
noncomputable def E25q : Env := ⟨Proofs.Try.prog, fun _ => false, sumsOf []⟩
def I25_0q : Spec := ⟨[(5, .c (.int .i64)), (12, .c (.dat false (.int .i64))), (13, .c (.int .i64)), (14, .c (.int .i64))], [], []⟩
def X0_25_0q : Spec := ⟨[(5, .c (.int .i64))], [], []⟩
def O25_0q : List (Ex × Spec) := [(.exit 0, X0_25_0q)]
def c25_0q (f : Int → List Int → Int → Int → Option Int) (d : I25_0q.den) : Option Int := f d.1.1.1 d.1.2.1.1 d.1.2.2.1.1 d.1.2.2.2.1.1
def T25_0q : OutD O25_0q → Int := fun d => d.1.1.1
def e25_0q : Elim Int := fun base x _ K => K (.exit 0) (stOf base X0_25_0q (((x, ()), ()), ()))
def L25_0q : LoopSum := ⟨I25_0q, O25_0q, Int, fun k d => c25_0q (lim_Net_L0 k k) d, e25_0q⟩
def A25q : Notes := ⟨[], [(3, L25_0q)]⟩
theorem B25q : EnvB E25q := env_n mixed_orders trivial
theorem st25_0q : StepOK E25q A25q 0 23 (loopAt (bodyOf Proofs.Try.f104) 0) I25_0q O25_0q T25_0q c25_0q lim_Net_L0b := by intro k rec d; kernel_rfl
theorem lk25_0q : LoopOK E25q.P 1000 0 23 (loopAt (bodyOf Proofs.Try.f104) 0) L25_0q := loop_b B25q st25_0q lim_Net_L0 e25_0q (fun _ _ _ => rfl) loops0
def as25q : List AS := [.agg [.dat false y4q, .dat false (.sl (.int .i64)), .dat false (.int .i64), .dat false (.sl (.int .i64))], .c (.int .i64)]
def rs25q : RS := .c (.int .i64)
def pk25q : Int → RL rs25q.cells := fun x => (x, ())
def up25q : RL rs25q.cells → Int := fun d => d.1
def s25q (k : Nat) (d : AD as25q) := lim_Net k d.1 d.2.1 d.2.2.1 d.2.2.2.1 d.2.2.2.2.1
def R25q : Nat × Entry := (104, fun k nm args h => entry as25q rs25q (s25q k) pk25q nm args h)
theorem ev25q : EvOK E25q A25q 0 Proofs.Try.f104 as25q rs25q up25q s25q := by intro k d; kernel_rfl
theorem F25q : FnOK Proofs.Try.prog R25q := fn_b B25q ev25q (loops1 lk25_0q)

/-! ### giro/fits.over -/
noncomputable def E26q : Env := ⟨Proofs.Try.prog, fun _ => false, sumsOf []⟩
def A26q : Notes := ⟨[], []⟩
theorem B26q : EnvB E26q := env_n mixed_orders trivial
def as26q : List AS := [.c (.int .i64), .c (.int .i64)]
def rs26q : RS := .c (.bool)
def pk26q : Bool → RL rs26q.cells := fun x => (x, ())
def up26q : RL rs26q.cells → Bool := fun d => d.1
def s26q (k : Nat) (d : AD as26q) := fits_over k d.1 d.2.1
def R26q : Nat × Entry := (105, fun k nm args h => entry as26q rs26q (s26q k) pk26q nm args h)
theorem ev26q : EvOK E26q A26q 0 Proofs.Try.f105 as26q rs26q up26q s26q := by intro k d; kernel_rfl
theorem F26q : FnOK Proofs.Try.prog R26q := fn_0 B26q ev26q

/-! ### giro/acct.Kept -/
noncomputable def E27q : Env := ⟨Proofs.Try.prog, fun _ => false, sumsOf []⟩
def A27q : Notes := ⟨[], []⟩
theorem B27q : EnvB E27q := env_n mixed_orders trivial
def as27q : List AS := [.agg [.int .i64, .int .i64, .int .i64], .c (.int .i64)]
def rs27q : RS := .c (.int .i64)
def pk27q : Int → RL rs27q.cells := fun x => (x, ())
def up27q : RL rs27q.cells → Int := fun d => d.1
def s27q (k : Nat) (d : AD as27q) := acct_Kept k d.1 d.2.1 d.2.2.1 d.2.2.2.1
def R27q : Nat × Entry := (88, fun k nm args h => entry as27q rs27q (s27q k) pk27q nm args h)
theorem ev27q : EvOK E27q A27q 0 Proofs.Try.f88 as27q rs27q up27q s27q := by intro k d; kernel_rfl
theorem F27q : FnOK Proofs.Try.prog R27q := fn_0 B27q ev27q

/-! ### (giro/fits.move).isShort$1 -/
noncomputable def E28q : Env := ⟨Proofs.Try.prog, fun _ => false, sumsOf [R27q, R26q]⟩
def A28q : Notes := ⟨[], []⟩
theorem B28q : EnvB E28q := env_n mixed_orders ⟨F27q, F26q, trivial⟩
def as28q : List AS := [.agg [.int .i64, .int .i64, .int .i64, .int .i64, .int .i64, .int .i64, .int .i64], .ptr [.int .i64], .ptr [.int .i64, .int .i64, .int .i64], .ptr [.dat false (.int .i64), .dat false (.int .i64), .dat false (.sl (.int .i64))], .ptr [.int .i64], .ptr [.dat false y4q, .dat false (.sl (.int .i64)), .dat false (.int .i64), .dat false (.sl (.int .i64))]]
def rs28q : RS := .c (.bool)
def pk28q : Bool → RL rs28q.cells := fun x => (x, ())
def up28q : RL rs28q.cells → Bool := fun d => d.1
def s28q (k : Nat) (d : AD as28q) := fits_move_isShort_fn1 k d.1 d.2.1 d.2.2.1 d.2.2.2.1 d.2.2.2.2.1 d.2.2.2.2.2.1 d.2.2.2.2.2.2.1 d.2.2.2.2.2.2.2.1 d.2.2.2.2.2.2.2.2.1 d.2.2.2.2.2.2.2.2.2.1 d.2.2.2.2.2.2.2.2.2.2.1 d.2.2.2.2.2.2.2.2.2.2.2.1 d.2.2.2.2.2.2.2.2.2.2.2.2.1 d.2.2.2.2.2.2.2.2.2.2.2.2.2.1 d.2.2.2.2.2.2.2.2.2.2.2.2.2.2.1 d.2.2.2.2.2.2.2.2.2.2.2.2.2.2.2.1 d.2.2.2.2.2.2.2.2.2.2.2.2.2.2.2.2.1 d.2.2.2.2.2.2.2.2.2.2.2.2.2.2.2.2.2.1 d.2.2.2.2.2.2.2.2.2.2.2.2.2.2.2.2.2.2.1
def R28q : Nat × Entry := (106, fun k nm args h => entry as28q rs28q (s28q k) pk28q nm args h)
theorem ev28q : EvOK E28q A28q 0 Proofs.Try.f106 as28q rs28q up28q s28q := by intro k d; kernel_rfl
theorem F28q : FnOK Proofs.Try.prog R28q := fn_0 B28q ev28q

/-! ### slices.IndexFunc[[]giro/api.Pay,giro/api.Pay] -/
noncomputable def E29q : Env := ⟨Proofs.Try.prog, fun _ => false, sumsOf [R28q]⟩
def I29_0q : Spec := ⟨[(0, .c (.dat false y8q)), (1, .c (.lit (.fn 106 [1001000, 1001001, 1001002, 1001003, 1001004]))), (7, .c (.int .i64)), (8, .c (.int .i64))], [.robox [.int .i64], .robox [.int .i64, .int .i64, .int .i64], .robox [.dat false (.int .i64), .dat false (.int .i64), .dat false (.sl (.int .i64))], .robox [.int .i64], .robox [.dat false y4q, .dat false (.sl (.int .i64)), .dat false (.int .i64), .dat false (.sl (.int .i64))]], []⟩
def X0_29_0q : Spec := ⟨[], [], []⟩
def X1_29_0q : Spec := ⟨[(4, .c (.int .i64))], [], []⟩
def O29_0q : List (Ex × Spec) := [(.exit 0, X0_29_0q), (.ret, X1_29_0q)]
def c29_0q (f : slices_IndexFunc_Pay__fits_move_isShort_fn1_L0T) (d : I29_0q.den) : Option (Unit ⊕ Int) := f d.1.1.1 d.1.2.2.1.1 d.1.2.2.2.1.1 d.2.1.1 d.2.2.1.1 d.2.2.1.2.1 d.2.2.1.2.2.1 d.2.2.2.1.1 d.2.2.2.1.2.1 d.2.2.2.1.2.2.1 d.2.2.2.2.1.1 d.2.2.2.2.2.1.1 d.2.2.2.2.2.1.2.1 d.2.2.2.2.2.1.2.2.1 d.2.2.2.2.2.1.2.2.2.1
def T29_0q : OutD O29_0q → (Unit ⊕ Int)
 | .inl d => .inl ()
 | .inr d => .inr d.1.1.1
def e29_0q : Elim (Unit ⊕ Int) := fun base x _ K => match x with
 | .inl x => K (.exit 0) (stOf base X0_29_0q ((), ()))
 | .inr x => K .ret (stOf base X1_29_0q (((x, ()), ()), ()))
def L29_0q : LoopSum := ⟨I29_0q, O29_0q, (Unit ⊕ Int), fun k d => c29_0q (slices_IndexFunc_Pay__fits_move_isShort_fn1_L0 k k) d, e29_0q⟩
def A29q : Notes := ⟨[], [(2, L29_0q)]⟩
theorem B29q : EnvB E29q := env_n mixed_orders ⟨F28q, trivial⟩
theorem st29_0q : StepOK E29q A29q 0 19 (loopAt (bodyOf Proofs.Try.f103) 0) I29_0q O29_0q T29_0q c29_0q slices_IndexFunc_Pay__fits_move_isShort_fn1_L0b := by intro k rec d; kernel_rfl
theorem lk29_0q : LoopOK E29q.P 1000 0 19 (loopAt (bodyOf Proofs.Try.f103) 0) L29_0q := loop_b B29q st29_0q slices_IndexFunc_Pay__fits_move_isShort_fn1_L0 e29_0q (by intro o R K; rcases o with o | o <;> rfl) loops0
def as29q : List AS := [.c (.dat false y8q), .fn 106 [[.int .i64], [.int .i64, .int .i64, .int .i64], [.dat false (.int .i64), .dat false (.int .i64), .dat false (.sl (.int .i64))], [.int .i64], [.dat false y4q, .dat false (.sl (.int .i64)), .dat false (.int .i64), .dat false (.sl (.int .i64))]]]
def rs29q : RS := .c (.int .i64)
def pk29q : Int → RL rs29q.cells := fun x => (x, ())
def up29q : RL rs29q.cells → Int := fun d => d.1
def s29q (k : Nat) (d : AD as29q) := slices_IndexFunc_Pay__fits_move_isShort_fn1 k d.1 d.2.1 d.2.2.1 d.2.2.2.1 d.2.2.2.2.1 d.2.2.2.2.2.1 d.2.2.2.2.2.2.1 d.2.2.2.2.2.2.2.1 d.2.2.2.2.2.2.2.2.1 d.2.2.2.2.2.2.2.2.2.1 d.2.2.2.2.2.2.2.2.2.2.1 d.2.2.2.2.2.2.2.2.2.2.2.1 d.2.2.2.2.2.2.2.2.2.2.2.2.1
def R29q : Nat × Entry := (103, fun k nm args h => entry as29q rs29q (s29q k) pk29q nm args h)
theorem ev29q : EvOK E29q A29q 0 Proofs.Try.f103 as29q rs29q up29q s29q := by intro k d; kernel_rfl
theorem F29q : FnOK Proofs.Try.prog R29q := fn_b B29q ev29q (loops1 lk29_0q)

/-! ### slices.ContainsFunc[[]giro/api.Pay,giro/api.Pay] -/
noncomputable def E30q : Env := ⟨Proofs.Try.prog, fun _ => false, sumsOf [R29q]⟩
def A30q : Notes := ⟨[], []⟩
theorem B30q : EnvB E30q := env_n mixed_orders ⟨F29q, trivial⟩
def as30q : List AS := [.c (.dat false y8q), .fn 106 [[.int .i64], [.int .i64, .int .i64, .int .i64], [.dat false (.int .i64), .dat false (.int .i64), .dat false (.sl (.int .i64))], [.int .i64], [.dat false y4q, .dat false (.sl (.int .i64)), .dat false (.int .i64), .dat false (.sl (.int .i64))]]]
def rs30q : RS := .c (.bool)
def pk30q : Bool → RL rs30q.cells := fun x => (x, ())
def up30q : RL rs30q.cells → Bool := fun d => d.1
def s30q (k : Nat) (d : AD as30q) := slices_ContainsFunc_Pay__fits_move_isShort_fn1 k d.1 d.2.1 d.2.2.1 d.2.2.2.1 d.2.2.2.2.1 d.2.2.2.2.2.1 d.2.2.2.2.2.2.1 d.2.2.2.2.2.2.2.1 d.2.2.2.2.2.2.2.2.1 d.2.2.2.2.2.2.2.2.2.1 d.2.2.2.2.2.2.2.2.2.2.1 d.2.2.2.2.2.2.2.2.2.2.2.1 d.2.2.2.2.2.2.2.2.2.2.2.2.1
def R30q : Nat × Entry := (79, fun k nm args h => entry as30q rs30q (s30q k) pk30q nm args h)
theorem ev30q : EvOK E30q A30q 0 Proofs.Try.f79 as30q rs30q up30q s30q := by intro k d; kernel_rfl
theorem F30q : FnOK Proofs.Try.prog R30q := fn_0 B30q ev30q

/-! ### (giro/fits.move).isShort -/
noncomputable def E31q : Env := ⟨Proofs.Try.prog, fun _ => false, sumsOf [R25q, R26q, R30q]⟩
def I31_0q : Spec := ⟨[(3, .c (.dat false y8q)), (4, .c (.lit (.ptr 1001000 0))), (5, .c (.lit (.ptr 1001001 0))), (6, .c (.lit (.ptr 1001002 0))), (9, .c (.lit (.ptr 1001003 0))), (10, .c (.lit (.ptr 1001004 0))), (11, .c (.int .i64)), (39, .c (.dat false (.int .i64))), (40, .c (.int .i64)), (41, .c (.int .i64))], [.box true [.dat false (.int .i64), .dat false (.int .i64), .dat false (.sl (.int .i64))], .box true [.dat false y4q, .dat false (.sl (.int .i64)), .dat false (.int .i64), .dat false (.sl (.int .i64))], .box true [.int .i64], .box true [.int .i64, .int .i64, .int .i64], .box true [.int .i64]], []⟩
def X0_31_0q : Spec := ⟨[(3, .c (.dat false y8q)), (4, .c (.lit (.ptr 1001000 0))), (5, .c (.lit (.ptr 1001001 0))), (6, .c (.lit (.ptr 1001002 0))), (9, .c (.lit (.ptr 1001003 0))), (10, .c (.lit (.ptr 1001004 0))), (11, .c (.int .i64))], [.box true [.dat false (.int .i64), .dat false (.int .i64), .dat false (.sl (.int .i64))], .box true [.dat false y4q, .dat false (.sl (.int .i64)), .dat false (.int .i64), .dat false (.sl (.int .i64))], .box true [.int .i64], .box true [.int .i64, .int .i64, .int .i64], .box true [.int .i64]], []⟩
def O31_0q : List (Ex × Spec) := [(.exit 0, X0_31_0q)]
def c31_0q (f : fits_move_isShort_L0T) (d : I31_0q.den) : Option fits_move_isShort_L0X := f d.1.1.1 d.1.2.2.2.2.2.2.1.1 d.1.2.2.2.2.2.2.2.1.1 d.1.2.2.2.2.2.2.2.2.1.1 d.1.2.2.2.2.2.2.2.2.2.1.1 d.2.1.1 d.2.1.2.1 d.2.1.2.2.1 d.2.2.1.1 d.2.2.1.2.1 d.2.2.1.2.2.1 d.2.2.1.2.2.2.1 d.2.2.2.1.1 d.2.2.2.2.1.1 d.2.2.2.2.1.2.1 d.2.2.2.2.1.2.2.1 d.2.2.2.2.2.1.1
def T31_0q : OutD O31_0q → fits_move_isShort_L0X := fun d => (d.1.1.1, d.1.2.2.2.2.2.2.1.1, d.2.1.1, d.2.1.2.1, d.2.1.2.2.1, d.2.2.1.1, d.2.2.1.2.1, d.2.2.1.2.2.1, d.2.2.1.2.2.2.1, d.2.2.2.1.1, d.2.2.2.2.1.1, d.2.2.2.2.1.2.1, d.2.2.2.2.1.2.2.1, d.2.2.2.2.2.1.1)
def e31_0q : Elim fits_move_isShort_L0X := fun base x _ K => K (.exit 0) (stOf base X0_31_0q (((x.1, ()), (), (), (), (), (), (x.2.1, ()), ()), ((x.2.2.1, x.2.2.2.1, x.2.2.2.2.1, ()), (x.2.2.2.2.2.1, x.2.2.2.2.2.2.1, x.2.2.2.2.2.2.2.1, x.2.2.2.2.2.2.2.2.1, ()), (x.2.2.2.2.2.2.2.2.2.1, ()), (x.2.2.2.2.2.2.2.2.2.2.1, x.2.2.2.2.2.2.2.2.2.2.2.1, x.2.2.2.2.2.2.2.2.2.2.2.2.1, ()), (x.2.2.2.2.2.2.2.2.2.2.2.2.2, ()), ())))
def L31_0q : LoopSum := ⟨I31_0q, O31_0q, fits_move_isShort_L0X, fun k d => c31_0q (fits_move_isShort_L0 k k) d, e31_0q⟩
def A31q : Notes := ⟨[], [(7, L31_0q)]⟩
theorem B31q : EnvB E31q := env_n mixed_orders ⟨F25q, F26q, F30q, trivial⟩
theorem st31_0q : StepOK E31q A31q 0 59 (loopAt (bodyOf Proofs.Try.f81) 0) I31_0q O31_0q T31_0q c31_0q fits_move_isShort_L0b := by intro k rec d; kernel_rfl
theorem lk31_0q : LoopOK E31q.P 1000 0 59 (loopAt (bodyOf Proofs.Try.f81) 0) L31_0q := loop_b B31q st31_0q fits_move_isShort_L0 e31_0q (fun _ _ _ => rfl) loops0
def as31q : List AS := [.agg [.dat false (.int .i64), .dat false (.int .i64), .dat false (.sl (.int .i64))], .agg [.dat false y4q, .dat false (.sl (.int .i64)), .dat false (.int .i64), .dat false (.sl (.int .i64))], .c (.int .i64), .c (.dat false y8q)]
def rs31q : RS := .c (.bool)
def pk31q : Bool → RL rs31q.cells := fun x => (x, ())
def up31q : RL rs31q.cells → Bool := fun d => d.1
def s31q (k : Nat) (d : AD as31q) := fits_move_isShort k d.1 d.2.1 d.2.2.1 d.2.2.2.1 d.2.2.2.2.1 d.2.2.2.2.2.1 d.2.2.2.2.2.2.1 d.2.2.2.2.2.2.2.1 d.2.2.2.2.2.2.2.2.1
def R31q : Nat × Entry := (81, fun k nm args h => entry as31q rs31q (s31q k) pk31q nm args h)
theorem ev31q : EvOK E31q A31q 0 Proofs.Try.f81 as31q rs31q up31q s31q := by intro k d; kernel_rfl
theorem F31q : FnOK Proofs.Try.prog R31q := fn_b B31q ev31q (loops1 lk31_0q)

/-! ### giro/fits.Short -/
noncomputable def E32q : Env := ⟨Proofs.Try.prog, fun _ => false, sumsOf [R21q, R24q, R31q]⟩
def I32_0q : Spec := ⟨[(1, .c (.dat false y8q)), (2, .c (.lit (.ptr 1001000 0))), (5, .c (.lit (.ptr 1001001 0))), (6, .c (.lit (.osl 1001005 none))), (16, .c (.int .i64)), (17, .c (.int .i64))], [.box true [.dat false y4q, .dat false (.sl (.int .i64)), .dat false (.int .i64), .dat false (.sl (.int .i64))], .box true [.lit (.osl 1001002 none), .lit (.osl 1001003 none), .lit (.osl 1001004 none)], .arr true (.int .i64), .arr true (.int .i64), .mat, .arr true (.int .i64)], [(6, none, (.int .i64), false)]⟩
def X0_32_0q : Spec := ⟨[(6, .c (.lit (.osl 1001000 none)))], [.arr true (.int .i64)], []⟩
def O32_0q : List (Ex × Spec) := [(.exit 0, X0_32_0q)]
def c32_0q (f : fits_Short_L0T) (d : I32_0q.den) : Option (List Int) := f d.1.1.1 d.1.2.2.2.2.1.1 d.1.2.2.2.2.2.1.1 d.2.1.1 d.2.1.2.1 d.2.1.2.2.1 d.2.1.2.2.2.1 d.2.2.2.1 d.2.2.2.2.1 d.2.2.2.2.2.1 d.2.2.2.2.2.2.1
def T32_0q : OutD O32_0q → (List Int) := fun d => d.2.1
def e32_0q : Elim (List Int) := fun base x _ K => K (.exit 0) (stOf base X0_32_0q (((), ()), (x, ())))
def L32_0q : LoopSum := ⟨I32_0q, O32_0q, (List Int), fun k d => c32_0q (fits_Short_L0 k k) d, e32_0q⟩
def A32q : Notes := ⟨[], [(4, L32_0q)]⟩
theorem B32q : EnvB E32q := env_n mixed_orders ⟨F21q, F24q, F31q, trivial⟩
theorem st32_0q : StepOK E32q A32q 0 37 (loopAt (bodyOf Proofs.Try.f40) 0) I32_0q O32_0q T32_0q c32_0q fits_Short_L0b := by intro k rec d; kernel_rfl
theorem lk32_0q : LoopOK E32q.P 1000 0 37 (loopAt (bodyOf Proofs.Try.f40) 0) L32_0q := loop_b B32q st32_0q fits_Short_L0 e32_0q (fun _ _ _ => rfl) loops0
def as32q : List AS := [.agg [.dat false y4q, .dat false (.sl (.int .i64)), .dat false (.int .i64), .dat false (.sl (.int .i64))], .c (.dat false y8q)]
def rs32q : RS := .c (.own (.int .i64))
def pk32q : List Int → RL rs32q.cells := fun x => (x, ())
def up32q : RL rs32q.cells → List Int := fun d => d.1
def s32q (k : Nat) (d : AD as32q) := fits_Short k d.1 d.2.1 d.2.2.1 d.2.2.2.1 d.2.2.2.2.1
def R32q : Nat × Entry := (40, fun k nm args h => entry as32q rs32q (s32q k) pk32q nm args h)
theorem ev32q : EvOK E32q A32q 0 Proofs.Try.f40 as32q rs32q up32q s32q := by intro k d; kernel_rfl
theorem F32q : FnOK Proofs.Try.prog R32q := fn_b B32q ev32q (loops1 lk32_0q)

/-! ### giro/knot.Most -/
noncomputable def E33q : Env := ⟨Proofs.Try.prog, fun _ => false, sumsOf [R10q, R13q, R17q, R32q]⟩
def I33_0q : Spec := ⟨[(3, .c (.lit (.ptr 1001000 0))), (6, .c (.lit (.osl 1001001 none))), (7, .c (.int .i64)), (8, .c (.lit (.osl 1001002 none))), (18, .c (.int .i64)), (19, .c (.int .i64))], [.box true [.dat false y4q, .dat false (.sl (.int .i64)), .dat false (.int .i64), .dat false (.sl (.int .i64))], .arr true (.int .i64), .arr true y8q], [(6, none, (.int .i64), false)]⟩
def X0_33_0q : Spec := ⟨[(3, .c (.lit (.ptr 1001000 0))), (6, .c (.lit (.osl 1001001 none))), (7, .c (.int .i64)), (8, .c (.lit (.osl 1001002 none)))], [.box true [.dat false y4q, .dat false (.sl (.int .i64)), .dat false (.int .i64), .dat false (.sl (.int .i64))], .arr true (.int .i64), .arr true y8q], []⟩
def O33_0q : List (Ex × Spec) := [(.exit 0, X0_33_0q)]
def c33_0q (f : knot_Most_L0T) (d : I33_0q.den) : Option knot_Most_L0X := f d.1.2.2.1.1 d.1.2.2.2.2.1.1 d.1.2.2.2.2.2.1.1 d.2.1.1 d.2.1.2.1 d.2.1.2.2.1 d.2.1.2.2.2.1 d.2.2.1 d.2.2.2.1
def T33_0q : OutD O33_0q → knot_Most_L0X := fun d => (d.1.2.2.1.1, d.2.1.1, d.2.1.2.1, d.2.1.2.2.1, d.2.1.2.2.2.1, d.2.2.1, d.2.2.2.1)
def e33_0q : Elim knot_Most_L0X := fun base x _ K => K (.exit 0) (stOf base X0_33_0q (((), (), (x.1, ()), (), ()), ((x.2.1, x.2.2.1, x.2.2.2.1, x.2.2.2.2.1, ()), x.2.2.2.2.2.1, x.2.2.2.2.2.2, ())))
def L33_0q : LoopSum := ⟨I33_0q, O33_0q, knot_Most_L0X, fun k d => c33_0q (knot_Most_L0 k k) d, e33_0q⟩
def I33_1q : Spec := ⟨[(3, .c (.lit (.ptr 1001000 0))), (6, .c (.lit (.osl 1001001 none))), (7, .c (.int .i64)), (8, .c (.lit (.osl 1001002 none))), (42, .c (.lit (.osl 1001003 none))), (43, .c (.int .i64)), (44, .c (.int .i64))], [.box true [.dat false y4q, .dat false (.sl (.int .i64)), .dat false (.int .i64), .dat false (.sl (.int .i64))], .arr true (.int .i64), .arr true y8q, .arr true (.int .i64)], []⟩
def X0_33_1q : Spec := ⟨[(3, .c (.lit (.ptr 1001000 0))), (6, .c (.lit (.osl 1001001 none))), (7, .c (.int .i64)), (8, .c (.lit (.osl 1001002 none)))], [.box true [.dat false y4q, .dat false (.sl (.int .i64)), .dat false (.int .i64), .dat false (.sl (.int .i64))], .arr true (.int .i64), .arr true y8q], []⟩
def O33_1q : List (Ex × Spec) := [(.exit 4, X0_33_1q)]
def c33_1q (f : knot_Most_L2T) (d : I33_1q.den) : Option knot_Most_L2X := f d.1.2.2.1.1 d.1.2.2.2.2.2.1.1 d.1.2.2.2.2.2.2.1.1 d.2.1.1 d.2.1.2.1 d.2.1.2.2.1 d.2.1.2.2.2.1 d.2.2.1 d.2.2.2.1 d.2.2.2.2.1
def T33_1q : OutD O33_1q → knot_Most_L2X := fun d => (d.1.2.2.1.1, d.2.1.1, d.2.1.2.1, d.2.1.2.2.1, d.2.1.2.2.2.1, d.2.2.1, d.2.2.2.1)
def e33_1q : Elim knot_Most_L2X := fun base x _ K => K (.exit 4) (stOf base X0_33_1q (((), (), (x.1, ()), (), ()), ((x.2.1, x.2.2.1, x.2.2.2.1, x.2.2.2.2.1, ()), x.2.2.2.2.2.1, x.2.2.2.2.2.2, ())))
def L33_1q : LoopSum := ⟨I33_1q, O33_1q, knot_Most_L2X, fun k d => c33_1q (knot_Most_L2 k k) d, e33_1q⟩
def I33_2q : Spec := ⟨[(3, .c (.lit (.ptr 1001000 0))), (6, .c (.lit (.osl 1001001 none))), (7, .c (.int .i64)), (8, .c (.lit (.osl 1001002 none)))], [.box true [.dat false y4q, .dat false (.sl (.int .i64)), .dat false (.int .i64), .dat false (.sl (.int .i64))], .arr true (.int .i64), .arr true y8q], []⟩
def X0_33_2q : Spec := ⟨[(6, .c (.lit (.osl 1001000 none))), (7, .c (.int .i64))], [.arr true (.int .i64)], []⟩
def O33_2q : List (Ex × Spec) := [(.ret, X0_33_2q)]
def c33_2q (f : knot_Most_L1T) (d : I33_2q.den) : Option (Int × (List Int)) := f d.1.2.2.1.1 d.2.1.1 d.2.1.2.1 d.2.1.2.2.1 d.2.1.2.2.2.1 d.2.2.1 d.2.2.2.1
def T33_2q : OutD O33_2q → (Int × (List Int)) := fun d => (d.1.2.1.1, d.2.1)
def e33_2q : Elim (Int × (List Int)) := fun base x _ K => K .ret (stOf base X0_33_2q (((), (x.1, ()), ()), (x.2, ())))
def L33_2q : LoopSum := ⟨I33_2q, O33_2q, (Int × (List Int)), fun k d => c33_2q (knot_Most_L1 k k) d, e33_2q⟩
def A33q : Notes := ⟨[], [(3, L33_0q), (12, L33_1q), (7, L33_2q)]⟩
theorem B33q : EnvB E33q := env_n mixed_orders ⟨F10q, F13q, F17q, F32q, trivial⟩
theorem st33_0q : StepOK E33q A33q 0 55 (loopAt (bodyOf Proofs.Try.f11) 0) I33_0q O33_0q T33_0q c33_0q knot_Most_L0b := by intro k rec d; kernel_rfl
theorem lk33_0q : LoopOK E33q.P 1000 0 55 (loopAt (bodyOf Proofs.Try.f11) 0) L33_0q := loop_b B33q st33_0q knot_Most_L0 e33_0q (fun _ _ _ => rfl) loops0
theorem st33_1q : StepOK E33q A33q 0 55 (loopAt (loopAt (bodyOf Proofs.Try.f11) 1) 0) I33_1q O33_1q T33_1q c33_1q knot_Most_L2b := by intro k rec d; kernel_rfl
theorem lk33_1q : LoopOK E33q.P 1000 0 55 (loopAt (loopAt (bodyOf Proofs.Try.f11) 1) 0) L33_1q := loop_b B33q st33_1q knot_Most_L2 e33_1q (fun _ _ _ => rfl) loops0
theorem st33_2q : StepOK E33q A33q 0 55 (loopAt (bodyOf Proofs.Try.f11) 1) I33_2q O33_2q T33_2q c33_2q knot_Most_L1b := by intro k rec d; kernel_rfl
theorem lk33_2q : LoopOK E33q.P 1000 0 55 (loopAt (bodyOf Proofs.Try.f11) 1) L33_2q := loop_b B33q st33_2q knot_Most_L1 e33_2q (fun _ _ _ => rfl) (loops1 lk33_1q)
def as33q : List AS := [.agg [.dat false y4q, .dat false (.sl (.int .i64)), .dat false (.int .i64), .dat false (.sl (.int .i64))], .c (.dat false y8q), .c (.int .i64)]
def rs33q : RS := .tup [(false, [.own (.int .i64)]), (false, [.int .i64])]
def pk33q : (List Int) × Int → RL rs33q.cells := fun x => (x.1, x.2, ())
def up33q : RL rs33q.cells → (List Int) × Int := fun d => (d.1, d.2.1)
def s33q (k : Nat) (d : AD as33q) := knot_Most k d.1 d.2.1 d.2.2.1 d.2.2.2.1 d.2.2.2.2.1 d.2.2.2.2.2.1
def R33q : Nat × Entry := (11, fun k nm args h => entry as33q rs33q (s33q k) pk33q nm args h)
theorem ev33q : EvOK E33q A33q 0 Proofs.Try.f11 as33q rs33q up33q s33q := by intro k d; kernel_rfl
theorem F33q : FnOK Proofs.Try.prog R33q := fn_b B33q ev33q (loopsOK_of (n := 2) (by kernel_rfl) fun i hi => match i, hi with | 0, _ => ⟨L33_0q, by kernel_rfl, lk33_0q⟩ | 1, _ => ⟨L33_2q, by kernel_rfl, lk33_2q⟩ | i + 2, hi => absurd hi (by omega))

/-! ### giro/fits.May -/
noncomputable def E45q : Env := ⟨Proofs.Try.prog, fun _ => false, sumsOf []⟩
def A45q : Notes := ⟨[], []⟩
theorem B45q : EnvB E45q := env_n mixed_orders trivial
def as45q : List AS := [.agg [.dat false y4q, .dat false (.sl (.int .i64)), .dat false (.int .i64), .dat false (.sl (.int .i64))], .agg [.int .i64, .int .i64, .int .i64, .int .i64, .int .i64, .int .i64, .int .i64]]
def rs45q : RS := .c (.bool)
def pk45q : Bool → RL rs45q.cells := fun x => (x, ())
def up45q : RL rs45q.cells → Bool := fun d => d.1
def s45q (k : Nat) (d : AD as45q) := fits_May k d.1 d.2.1 d.2.2.1 d.2.2.2.1 d.2.2.2.2.1 d.2.2.2.2.2.1 d.2.2.2.2.2.2.1 d.2.2.2.2.2.2.2.1 d.2.2.2.2.2.2.2.2.1 d.2.2.2.2.2.2.2.2.2.1 d.2.2.2.2.2.2.2.2.2.2.1
def R45q : Nat × Entry := (86, fun k nm args h => entry as45q rs45q (s45q k) pk45q nm args h)
theorem ev45q : EvOK E45q A45q 0 Proofs.Try.f86 as45q rs45q up45q s45q := by intro k d; kernel_rfl
theorem F45q : FnOK Proofs.Try.prog R45q := fn_0 B45q ev45q

/-! ### giro/post.Post$1 -/
noncomputable def E46q : Env := ⟨Proofs.Try.prog, fun _ => false, sumsOf [R45q]⟩
def A46q : Notes := ⟨[], []⟩
theorem B46q : EnvB E46q := env_n mixed_orders ⟨F45q, trivial⟩
def as46q : List AS := [.agg [.int .i64, .int .i64, .int .i64, .int .i64, .int .i64, .int .i64, .int .i64], .ptr [.dat false y4q, .dat false (.sl (.int .i64)), .dat false (.int .i64), .dat false (.sl (.int .i64))]]
def rs46q : RS := .c (.bool)
def pk46q : Bool → RL rs46q.cells := fun x => (x, ())
def up46q : RL rs46q.cells → Bool := fun d => d.1
def s46q (k : Nat) (d : AD as46q) := post_Post_fn1 k d.1 d.2.1 d.2.2.1 d.2.2.2.1 d.2.2.2.2.1 d.2.2.2.2.2.1 d.2.2.2.2.2.2.1 d.2.2.2.2.2.2.2.1 d.2.2.2.2.2.2.2.2.1 d.2.2.2.2.2.2.2.2.2.1 d.2.2.2.2.2.2.2.2.2.2.1
def R46q : Nat × Entry := (85, fun k nm args h => entry as46q rs46q (s46q k) pk46q nm args h)
theorem ev46q : EvOK E46q A46q 0 Proofs.Try.f85 as46q rs46q up46q s46q := by intro k d; kernel_rfl
theorem F46q : FnOK Proofs.Try.prog R46q := fn_0 B46q ev46q

/-! ### slices.IndexFunc[[]giro/api.Pay,giro/api.Pay] -/
noncomputable def E47q : Env := ⟨Proofs.Try.prog, fun _ => false, sumsOf [R46q]⟩
def I47_0q : Spec := ⟨[(0, .c (.dat false y8q)), (1, .c (.lit (.fn 85 [1001000]))), (7, .c (.int .i64)), (8, .c (.int .i64))], [.robox [.dat false y4q, .dat false (.sl (.int .i64)), .dat false (.int .i64), .dat false (.sl (.int .i64))]], []⟩
def X0_47_0q : Spec := ⟨[], [], []⟩
def X1_47_0q : Spec := ⟨[(4, .c (.int .i64))], [], []⟩
def O47_0q : List (Ex × Spec) := [(.exit 0, X0_47_0q), (.ret, X1_47_0q)]
def c47_0q (f : slices_IndexFunc_Pay__post_Post_fn1_L0T) (d : I47_0q.den) : Option (Unit ⊕ Int) := f d.1.1.1 d.1.2.2.1.1 d.1.2.2.2.1.1 d.2.1.1 d.2.1.2.1 d.2.1.2.2.1 d.2.1.2.2.2.1
def T47_0q : OutD O47_0q → (Unit ⊕ Int)
 | .inl d => .inl ()
 | .inr d => .inr d.1.1.1
def e47_0q : Elim (Unit ⊕ Int) := fun base x _ K => match x with
 | .inl x => K (.exit 0) (stOf base X0_47_0q ((), ()))
 | .inr x => K .ret (stOf base X1_47_0q (((x, ()), ()), ()))
def L47_0q : LoopSum := ⟨I47_0q, O47_0q, (Unit ⊕ Int), fun k d => c47_0q (slices_IndexFunc_Pay__post_Post_fn1_L0 k k) d, e47_0q⟩
def A47q : Notes := ⟨[], [(2, L47_0q)]⟩
theorem B47q : EnvB E47q := env_n mixed_orders ⟨F46q, trivial⟩
theorem st47_0q : StepOK E47q A47q 0 19 (loopAt (bodyOf Proofs.Try.f103) 0) I47_0q O47_0q T47_0q c47_0q slices_IndexFunc_Pay__post_Post_fn1_L0b := by intro k rec d; kernel_rfl
theorem lk47_0q : LoopOK E47q.P 1000 0 19 (loopAt (bodyOf Proofs.Try.f103) 0) L47_0q := loop_b B47q st47_0q slices_IndexFunc_Pay__post_Post_fn1_L0 e47_0q (by intro o R K; rcases o with o | o <;> rfl) loops0
def as47q : List AS := [.c (.dat false y8q), .fn 85 [[.dat false y4q, .dat false (.sl (.int .i64)), .dat false (.int .i64), .dat false (.sl (.int .i64))]]]
def rs47q : RS := .c (.int .i64)
def pk47q : Int → RL rs47q.cells := fun x => (x, ())
def up47q : RL rs47q.cells → Int := fun d => d.1
def s47q (k : Nat) (d : AD as47q) := slices_IndexFunc_Pay__post_Post_fn1 k d.1 d.2.1 d.2.2.1 d.2.2.2.1 d.2.2.2.2.1
def R47q : Nat × Entry := (103, fun k nm args h => entry as47q rs47q (s47q k) pk47q nm args h)
theorem ev47q : EvOK E47q A47q 0 Proofs.Try.f103 as47q rs47q up47q s47q := by intro k d; kernel_rfl
theorem F47q : FnOK Proofs.Try.prog R47q := fn_b B47q ev47q (loops1 lk47_0q)

/-! ### slices.ContainsFunc[[]giro/api.Pay,giro/api.Pay] -/
noncomputable def E48q : Env := ⟨Proofs.Try.prog, fun _ => false, sumsOf [R47q]⟩
def A48q : Notes := ⟨[], []⟩
theorem B48q : EnvB E48q := env_n mixed_orders ⟨F47q, trivial⟩
def as48q : List AS := [.c (.dat false y8q), .fn 85 [[.dat false y4q, .dat false (.sl (.int .i64)), .dat false (.int .i64), .dat false (.sl (.int .i64))]]]
def rs48q : RS := .c (.bool)
def pk48q : Bool → RL rs48q.cells := fun x => (x, ())
def up48q : RL rs48q.cells → Bool := fun d => d.1
def s48q (k : Nat) (d : AD as48q) := slices_ContainsFunc_Pay__post_Post_fn1 k d.1 d.2.1 d.2.2.1 d.2.2.2.1 d.2.2.2.2.1
def R48q : Nat × Entry := (79, fun k nm args h => entry as48q rs48q (s48q k) pk48q nm args h)
theorem ev48q : EvOK E48q A48q 0 Proofs.Try.f79 as48q rs48q up48q s48q := by intro k d; kernel_rfl
theorem F48q : FnOK Proofs.Try.prog R48q := fn_0 B48q ev48q

/-! ### slices.Clone[[]giro/api.Acct,giro/api.Acct] -/
noncomputable def E49q : Env := ⟨Proofs.Try.prog, fun _ => false, sumsOf []⟩
def A49q : Notes := ⟨[], []⟩
theorem B49q : EnvB E49q := env_n mixed_orders trivial
def as49q : List AS := [.c (.dat false y4q)]
def rs49q : RS := .c (.own y4q)
def pk49q : List K3q → RL rs49q.cells := fun x => (x, ())
def up49q : RL rs49q.cells → List K3q := fun d => d.1
def s49q (k : Nat) (d : AD as49q) := slices_Clone_Acct k d.1
def R49q : Nat × Entry := (108, fun k nm args h => entry as49q rs49q (fun d => slices_Clone_Acct k d.1) pk49q nm args h)
theorem nil49q (k : Nat) : evF E49q A49q k 1000 0 Proofs.Try.f108 [.c .nsl] (boxHp []) (outM rs49q up49q) = slices_Clone_Acct k [] := by kernel_rfl
theorem ev49q (k : Nat) (xs : List K3q) : evF E49q A49q k 1000 0 Proofs.Try.f108 [.c (.nfl false y4q xs)] (boxHp []) (outM rs49q up49q) = slices_Clone_Acct k xs := by kernel_rfl
theorem F49q : FnOK Proofs.Try.prog R49q := fn_nil (t := y4q) (S := slices_Clone_Acct) (unpack := up49q) B49q nil49q ev49q loops0

/-! ### slices.Clone[[][]int64,[]int64] -/
noncomputable def E50q : Env := ⟨Proofs.Try.prog, fun _ => false, sumsOf []⟩
def A50q : Notes := ⟨[], []⟩
theorem B50q : EnvB E50q := env_n mixed_orders trivial
def as50q : List AS := [.c (.dat true (.sl (.int .i64)))]
def rs50q : RS := .c (.jun)
def pk50q : Nat → RL rs50q.cells := fun x => (x, ())
def up50q : RL rs50q.cells → Nat := fun d => d.1
def s50q (k : Nat) (d : AD as50q) := slices_Clone_Rowint64 k d.1
def R50q : Nat × Entry := (123, fun k nm args h => entry as50q rs50q (fun d => slices_Clone_Rowint64 k d.1) pk50q nm args h)
theorem nil50q (k : Nat) : evF E50q A50q k 1000 0 Proofs.Try.f123 [.c .nsl] (boxHp []) (outM rs50q up50q) = slices_Clone_Rowint64 k [] := by kernel_rfl
theorem ev50q (k : Nat) (xs : List (List Int)) : evF E50q A50q k 1000 0 Proofs.Try.f123 [.c (.nfl true (.sl (.int .i64)) xs)] (boxHp []) (outM rs50q up50q) = slices_Clone_Rowint64 k xs := by kernel_rfl
theorem F50q : FnOK Proofs.Try.prog R50q := fn_nil (t := (.sl (.int .i64))) (S := slices_Clone_Rowint64) (unpack := up50q) B50q nil50q ev50q loops0

/-! ### slices.Clone[[]int64,int64] -/
noncomputable def E51q : Env := ⟨Proofs.Try.prog, fun _ => false, sumsOf []⟩
def A51q : Notes := ⟨[], []⟩
theorem B51q : EnvB E51q := env_n mixed_orders trivial
def as51q : List AS := [.c (.dat false (.int .i64))]
def rs51q : RS := .c (.own (.int .i64))
def pk51q : List Int → RL rs51q.cells := fun x => (x, ())
def up51q : RL rs51q.cells → List Int := fun d => d.1
def s51q (k : Nat) (d : AD as51q) := slices_Clone_int64 k d.1
def R51q : Nat × Entry := (110, fun k nm args h => entry as51q rs51q (fun d => slices_Clone_int64 k d.1) pk51q nm args h)
theorem nil51q (k : Nat) : evF E51q A51q k 1000 0 Proofs.Try.f110 [.c .nsl] (boxHp []) (outM rs51q up51q) = slices_Clone_int64 k [] := by kernel_rfl
theorem ev51q (k : Nat) (xs : List Int) : evF E51q A51q k 1000 0 Proofs.Try.f110 [.c (.nfl false (.int .i64) xs)] (boxHp []) (outM rs51q up51q) = slices_Clone_int64 k xs := by kernel_rfl
theorem F51q : FnOK Proofs.Try.prog R51q := fn_nil (t := (.int .i64)) (S := slices_Clone_int64) (unpack := up51q) B51q nil51q ev51q loops0

/-! ### giro/lim.copied -/
noncomputable def E52q : Env := ⟨Proofs.Try.prog, fun _ => false, sumsOf [R50q, R51q]⟩
def I52_0q : Spec := ⟨[(3, .c (.lit (.osl 1001000 none))), (8, .c (.dat true (.sl (.int .i64)))), (9, .c (.int .i64)), (10, .c (.int .i64))], [.pmat], []⟩
def X0_52_0q : Spec := ⟨[(3, .c (.lit (.osl 1001000 none)))], [.pmat], []⟩
def O52_0q : List (Ex × Spec) := [(.exit 0, X0_52_0q)]
def c52_0q (f : lim_copied_L0T) (d : I52_0q.den) : Option ((List (List Int)) × Nat) := f d.1.2.1.1 d.1.2.2.1.1 d.1.2.2.2.1.1 d.2.1.1 d.2.1.2
def T52_0q : OutD O52_0q → ((List (List Int)) × Nat) := fun d => (d.2.1.1, d.2.1.2)
def e52_0q : Elim ((List (List Int)) × Nat) := fun base x _ K => K (.exit 0) (stOf base X0_52_0q (((), ()), ((x.1, x.2), ())))
def L52_0q : LoopSum := ⟨I52_0q, O52_0q, ((List (List Int)) × Nat), fun k d => c52_0q (lim_copied_L0 k k) d, e52_0q⟩
def A52q : Notes := ⟨[], [(3, L52_0q)]⟩
theorem B52q : EnvB E52q := env_n mixed_orders ⟨F50q, F51q, trivial⟩
theorem st52_0q : StepOK E52q A52q 0 22 (loopAt (bodyOf Proofs.Try.f109) 0) I52_0q O52_0q T52_0q c52_0q lim_copied_L0b := by intro k rec d; kernel_rfl
theorem lk52_0q : LoopOK E52q.P 1000 0 22 (loopAt (bodyOf Proofs.Try.f109) 0) L52_0q := loop_b B52q st52_0q lim_copied_L0 e52_0q (fun _ _ _ => rfl) loops0
def as52q : List AS := [.c (.dat true (.sl (.int .i64)))]
def rs52q : RS := .c (.mat)
def pk52q : List (List Int) → RL rs52q.cells := fun x => (x, ())
def up52q : RL rs52q.cells → List (List Int) := fun d => d.1
def s52q (k : Nat) (d : AD as52q) := lim_copied k d.1
def R52q : Nat × Entry := (109, fun k nm args h => entry as52q rs52q (s52q k) pk52q nm args h)
theorem ev52q : EvOK E52q A52q 0 Proofs.Try.f109 as52q rs52q up52q s52q := by intro k d; kernel_rfl
theorem F52q : FnOK Proofs.Try.prog R52q := fn_b B52q ev52q (loops1 lk52_0q)

/-! ### giro/lim.Copy -/
noncomputable def E53q : Env := ⟨Proofs.Try.prog, fun _ => false, sumsOf [R49q, R52q, R51q]⟩
def A53q : Notes := ⟨[], []⟩
theorem B53q : EnvB E53q := env_n mixed_orders ⟨F49q, F52q, F51q, trivial⟩
def as53q : List AS := [.agg [.dat false y4q, .dat true (.sl (.int .i64)), .dat false (.int .i64), .dat true (.sl (.int .i64))]]
def rs53q : RS := .agg [.own y4q, .mat, .own (.int .i64), .mat]
def pk53q : (List K3q) × (List (List Int)) × (List Int) × (List (List Int)) → RL rs53q.cells := fun x => (x.1, x.2.1, x.2.2.1, x.2.2.2, ())
def up53q : RL rs53q.cells → (List K3q) × (List (List Int)) × (List Int) × (List (List Int)) := fun d => (d.1, d.2.1, d.2.2.1, d.2.2.2.1)
def s53q (k : Nat) (d : AD as53q) := lim_Copy k d.1 d.2.1 d.2.2.1 d.2.2.2.1
def R53q : Nat × Entry := (87, fun k nm args h => entry as53q rs53q (s53q k) pk53q nm args h)
theorem ev53q : EvOK E53q A53q 0 Proofs.Try.f87 as53q rs53q up53q s53q := by intro k d; kernel_rfl
theorem F53q : FnOK Proofs.Try.prog R53q := fn_0 B53q ev53q

/-! ### giro/acct.Is -/
noncomputable def E54q : Env := ⟨Proofs.Try.prog, fun _ => false, sumsOf []⟩
def A54q : Notes := ⟨[], []⟩
theorem B54q : EnvB E54q := env_n mixed_orders trivial
def as54q : List AS := [.agg [.int .i64, .int .i64, .int .i64]]
def rs54q : RS := .c (.bool)
def pk54q : Bool → RL rs54q.cells := fun x => (x, ())
def up54q : RL rs54q.cells → Bool := fun d => d.1
def s54q (k : Nat) (d : AD as54q) := acct_Is k d.1 d.2.1 d.2.2.1
def R54q : Nat × Entry := (112, fun k nm args h => entry as54q rs54q (s54q k) pk54q nm args h)
theorem ev54q : EvOK E54q A54q 0 Proofs.Try.f112 as54q rs54q up54q s54q := by intro k d; kernel_rfl
theorem F54q : FnOK Proofs.Try.prog R54q := fn_0 B54q ev54q

/-! ### giro/lim.Is$1 -/
noncomputable def E55q : Env := ⟨Proofs.Try.prog, fun _ => false, sumsOf [R54q]⟩
def A55q : Notes := ⟨[], []⟩
theorem B55q : EnvB E55q := env_n mixed_orders ⟨F54q, trivial⟩
def as55q : List AS := [.agg [.int .i64, .int .i64, .int .i64]]
def rs55q : RS := .c (.bool)
def pk55q : Bool → RL rs55q.cells := fun x => (x, ())
def up55q : RL rs55q.cells → Bool := fun d => d.1
def s55q (k : Nat) (d : AD as55q) := lim_Is_fn1 k d.1 d.2.1 d.2.2.1
def R55q : Nat × Entry := (111, fun k nm args h => entry as55q rs55q (s55q k) pk55q nm args h)
theorem ev55q : EvOK E55q A55q 0 Proofs.Try.f111 as55q rs55q up55q s55q := by intro k d; kernel_rfl
theorem F55q : FnOK Proofs.Try.prog R55q := fn_0 B55q ev55q

/-! ### slices.IndexFunc[[]giro/api.Acct,giro/api.Acct] -/
noncomputable def E56q : Env := ⟨Proofs.Try.prog, fun _ => false, sumsOf [R55q]⟩
def I56_0q : Spec := ⟨[(0, .c (.dat false y4q)), (1, .c (.lit (.fn 111 []))), (7, .c (.int .i64)), (8, .c (.int .i64))], [], []⟩
def X0_56_0q : Spec := ⟨[], [], []⟩
def X1_56_0q : Spec := ⟨[(4, .c (.int .i64))], [], []⟩
def O56_0q : List (Ex × Spec) := [(.exit 0, X0_56_0q), (.ret, X1_56_0q)]
def c56_0q (f : slices_IndexFunc_Acct__lim_Is_fn1_L0T) (d : I56_0q.den) : Option (Unit ⊕ Int) := f d.1.1.1 d.1.2.2.1.1 d.1.2.2.2.1.1
def T56_0q : OutD O56_0q → (Unit ⊕ Int)
 | .inl d => .inl ()
 | .inr d => .inr d.1.1.1
def e56_0q : Elim (Unit ⊕ Int) := fun base x _ K => match x with
 | .inl x => K (.exit 0) (stOf base X0_56_0q ((), ()))
 | .inr x => K .ret (stOf base X1_56_0q (((x, ()), ()), ()))
def L56_0q : LoopSum := ⟨I56_0q, O56_0q, (Unit ⊕ Int), fun k d => c56_0q (slices_IndexFunc_Acct__lim_Is_fn1_L0 k k) d, e56_0q⟩
def A56q : Notes := ⟨[], [(2, L56_0q)]⟩
theorem B56q : EnvB E56q := env_n mixed_orders ⟨F55q, trivial⟩
theorem st56_0q : StepOK E56q A56q 0 19 (loopAt (bodyOf Proofs.Try.f124) 0) I56_0q O56_0q T56_0q c56_0q slices_IndexFunc_Acct__lim_Is_fn1_L0b := by intro k rec d; kernel_rfl
theorem lk56_0q : LoopOK E56q.P 1000 0 19 (loopAt (bodyOf Proofs.Try.f124) 0) L56_0q := loop_b B56q st56_0q slices_IndexFunc_Acct__lim_Is_fn1_L0 e56_0q (by intro o R K; rcases o with o | o <;> rfl) loops0
def as56q : List AS := [.c (.dat false y4q), .c (.fn 111)]
def rs56q : RS := .c (.int .i64)
def pk56q : Int → RL rs56q.cells := fun x => (x, ())
def up56q : RL rs56q.cells → Int := fun d => d.1
def s56q (k : Nat) (d : AD as56q) := slices_IndexFunc_Acct__lim_Is_fn1 k d.1
def R56q : Nat × Entry := (124, fun k nm args h => entry as56q rs56q (s56q k) pk56q nm args h)
theorem ev56q : EvOK E56q A56q 0 Proofs.Try.f124 as56q rs56q up56q s56q := by intro k d; kernel_rfl
theorem F56q : FnOK Proofs.Try.prog R56q := fn_b B56q ev56q (loops1 lk56_0q)

/-! ### slices.ContainsFunc[[]giro/api.Acct,giro/api.Acct] -/
noncomputable def E57q : Env := ⟨Proofs.Try.prog, fun _ => false, sumsOf [R56q]⟩
def A57q : Notes := ⟨[], []⟩
theorem B57q : EnvB E57q := env_n mixed_orders ⟨F56q, trivial⟩
def as57q : List AS := [.c (.dat false y4q), .c (.fn 111)]
def rs57q : RS := .c (.bool)
def pk57q : Bool → RL rs57q.cells := fun x => (x, ())
def up57q : RL rs57q.cells → Bool := fun d => d.1
def s57q (k : Nat) (d : AD as57q) := slices_ContainsFunc_Acct__lim_Is_fn1 k d.1
def R57q : Nat × Entry := (113, fun k nm args h => entry as57q rs57q (s57q k) pk57q nm args h)
theorem ev57q : EvOK E57q A57q 0 Proofs.Try.f113 as57q rs57q up57q s57q := by intro k d; kernel_rfl
theorem F57q : FnOK Proofs.Try.prog R57q := fn_0 B57q ev57q

/-! ### giro/lim.isLimit -/
noncomputable def E58q : Env := ⟨Proofs.Try.prog, fun _ => false, sumsOf []⟩
def A58q : Notes := ⟨[], []⟩
theorem B58q : EnvB E58q := env_n mixed_orders trivial
def as58q : List AS := [.c (.int .i64)]
def rs58q : RS := .c (.bool)
def pk58q : Bool → RL rs58q.cells := fun x => (x, ())
def up58q : RL rs58q.cells → Bool := fun d => d.1
def s58q (k : Nat) (d : AD as58q) := lim_isLimit k d.1
def R58q : Nat × Entry := (115, fun k nm args h => entry as58q rs58q (s58q k) pk58q nm args h)
theorem ev58q : EvOK E58q A58q 0 Proofs.Try.f115 as58q rs58q up58q s58q := by intro k d; kernel_rfl
theorem F58q : FnOK Proofs.Try.prog R58q := fn_0 B58q ev58q

/-! ### giro/lim.isRow$1 -/
noncomputable def E59q : Env := ⟨Proofs.Try.prog, fun _ => false, sumsOf [R58q]⟩
def A59q : Notes := ⟨[], []⟩
theorem B59q : EnvB E59q := env_n mixed_orders ⟨F58q, trivial⟩
def as59q : List AS := [.c (.int .i64), .ptr [.fn 115]]
def rs59q : RS := .c (.bool)
def pk59q : Bool → RL rs59q.cells := fun x => (x, ())
def up59q : RL rs59q.cells → Bool := fun d => d.1
def s59q (k : Nat) (d : AD as59q) := lim_isRow_fn1__lim_isLimit k d.1
def R59q : Nat × Entry := (126, fun k nm args h => entry as59q rs59q (s59q k) pk59q nm args h)
theorem ev59q : EvOK E59q A59q 0 Proofs.Try.f126 as59q rs59q up59q s59q := by intro k d; kernel_rfl
theorem F59q : FnOK Proofs.Try.prog R59q := fn_0 B59q ev59q

/-! ### slices.IndexFunc[[]int64,int64] -/
noncomputable def E60q : Env := ⟨Proofs.Try.prog, fun _ => false, sumsOf [R59q]⟩
def I60_0q : Spec := ⟨[(0, .c (.dat false (.int .i64))), (1, .c (.lit (.fn 126 [1001000]))), (7, .c (.int .i64)), (8, .c (.int .i64))], [.robox [.lit (.fn 115 [])]], []⟩
def X0_60_0q : Spec := ⟨[], [], []⟩
def X1_60_0q : Spec := ⟨[(4, .c (.int .i64))], [], []⟩
def O60_0q : List (Ex × Spec) := [(.exit 0, X0_60_0q), (.ret, X1_60_0q)]
def c60_0q (f : slices_IndexFunc_int64__lim_isRow_fn1__lim_isLimit_L0T) (d : I60_0q.den) : Option (Unit ⊕ Int) := f d.1.1.1 d.1.2.2.1.1 d.1.2.2.2.1.1
def T60_0q : OutD O60_0q → (Unit ⊕ Int)
 | .inl d => .inl ()
 | .inr d => .inr d.1.1.1
def e60_0q : Elim (Unit ⊕ Int) := fun base x _ K => match x with
 | .inl x => K (.exit 0) (stOf base X0_60_0q ((), ()))
 | .inr x => K .ret (stOf base X1_60_0q (((x, ()), ()), ()))
def L60_0q : LoopSum := ⟨I60_0q, O60_0q, (Unit ⊕ Int), fun k d => c60_0q (slices_IndexFunc_int64__lim_isRow_fn1__lim_isLimit_L0 k k) d, e60_0q⟩
def A60q : Notes := ⟨[], [(2, L60_0q)]⟩
theorem B60q : EnvB E60q := env_n mixed_orders ⟨F59q, trivial⟩
theorem st60_0q : StepOK E60q A60q 0 19 (loopAt (bodyOf Proofs.Try.f129) 0) I60_0q O60_0q T60_0q c60_0q slices_IndexFunc_int64__lim_isRow_fn1__lim_isLimit_L0b := by intro k rec d; kernel_rfl
theorem lk60_0q : LoopOK E60q.P 1000 0 19 (loopAt (bodyOf Proofs.Try.f129) 0) L60_0q := loop_b B60q st60_0q slices_IndexFunc_int64__lim_isRow_fn1__lim_isLimit_L0 e60_0q (by intro o R K; rcases o with o | o <;> rfl) loops0
def as60q : List AS := [.c (.dat false (.int .i64)), .fn 126 [[.fn 115]]]
def rs60q : RS := .c (.int .i64)
def pk60q : Int → RL rs60q.cells := fun x => (x, ())
def up60q : RL rs60q.cells → Int := fun d => d.1
def s60q (k : Nat) (d : AD as60q) := slices_IndexFunc_int64__lim_isRow_fn1__lim_isLimit k d.1
def R60q : Nat × Entry := (129, fun k nm args h => entry as60q rs60q (s60q k) pk60q nm args h)
theorem ev60q : EvOK E60q A60q 0 Proofs.Try.f129 as60q rs60q up60q s60q := by intro k d; kernel_rfl
theorem F60q : FnOK Proofs.Try.prog R60q := fn_b B60q ev60q (loops1 lk60_0q)

/-! ### slices.ContainsFunc[[]int64,int64] -/
noncomputable def E61q : Env := ⟨Proofs.Try.prog, fun _ => false, sumsOf [R60q]⟩
def A61q : Notes := ⟨[], []⟩
theorem B61q : EnvB E61q := env_n mixed_orders ⟨F60q, trivial⟩
def as61q : List AS := [.c (.dat false (.int .i64)), .fn 126 [[.fn 115]]]
def rs61q : RS := .c (.bool)
def pk61q : Bool → RL rs61q.cells := fun x => (x, ())
def up61q : RL rs61q.cells → Bool := fun d => d.1
def s61q (k : Nat) (d : AD as61q) := slices_ContainsFunc_int64__lim_isRow_fn1__lim_isLimit k d.1
def R61q : Nat × Entry := (125, fun k nm args h => entry as61q rs61q (s61q k) pk61q nm args h)
theorem ev61q : EvOK E61q A61q 0 Proofs.Try.f125 as61q rs61q up61q s61q := by intro k d; kernel_rfl
theorem F61q : FnOK Proofs.Try.prog R61q := fn_0 B61q ev61q

/-! ### giro/lim.isRow -/
noncomputable def E62q : Env := ⟨Proofs.Try.prog, fun _ => false, sumsOf [R61q]⟩
def A62q : Notes := ⟨[], []⟩
theorem B62q : EnvB E62q := env_n mixed_orders ⟨F61q, trivial⟩
def as62q : List AS := [.c (.dat false (.int .i64)), .c (.int .i64), .c (.fn 115)]
def rs62q : RS := .c (.bool)
def pk62q : Bool → RL rs62q.cells := fun x => (x, ())
def up62q : RL rs62q.cells → Bool := fun d => d.1
def s62q (k : Nat) (d : AD as62q) := lim_isRow__lim_isLimit k d.1 d.2.1
def R62q : Nat × Entry := (116, fun k nm args h => entry as62q rs62q (s62q k) pk62q nm args h)
theorem ev62q : EvOK E62q A62q 0 Proofs.Try.f116 as62q rs62q up62q s62q := by intro k d; kernel_rfl
theorem F62q : FnOK Proofs.Try.prog R62q := fn_0 B62q ev62q

/-! ### giro/lim.isSquare -/
noncomputable def E63q : Env := ⟨Proofs.Try.prog, fun _ => false, sumsOf [R62q]⟩
def I63_0q : Spec := ⟨[(1, .c (.int .i64)), (2, .c (.lit (.fn 115 []))), (13, .c (.dat false (.sl (.int .i64)))), (14, .c (.int .i64)), (15, .c (.int .i64))], [], []⟩
def X0_63_0q : Spec := ⟨[], [], []⟩
def X1_63_0q : Spec := ⟨[(6, .c (.bool))], [], []⟩
def O63_0q : List (Ex × Spec) := [(.exit 0, X0_63_0q), (.ret, X1_63_0q)]
def c63_0q (f : lim_isSquare__lim_isLimit_L0T) (d : I63_0q.den) : Option (Unit ⊕ Bool) := f d.1.1.1 d.1.2.2.1.1 d.1.2.2.2.1.1 d.1.2.2.2.2.1.1
def T63_0q : OutD O63_0q → (Unit ⊕ Bool)
 | .inl d => .inl ()
 | .inr d => .inr d.1.1.1
def e63_0q : Elim (Unit ⊕ Bool) := fun base x _ K => match x with
 | .inl x => K (.exit 0) (stOf base X0_63_0q ((), ()))
 | .inr x => K .ret (stOf base X1_63_0q (((x, ()), ()), ()))
def L63_0q : LoopSum := ⟨I63_0q, O63_0q, (Unit ⊕ Bool), fun k d => c63_0q (lim_isSquare__lim_isLimit_L0 k k) d, e63_0q⟩
def A63q : Notes := ⟨[], [(4, L63_0q)]⟩
theorem B63q : EnvB E63q := env_n mixed_orders ⟨F62q, trivial⟩
theorem st63_0q : StepOK E63q A63q 0 25 (loopAt (bodyOf Proofs.Try.f114) 0) I63_0q O63_0q T63_0q c63_0q lim_isSquare__lim_isLimit_L0b := by intro k rec d; kernel_rfl
theorem lk63_0q : LoopOK E63q.P 1000 0 25 (loopAt (bodyOf Proofs.Try.f114) 0) L63_0q := loop_b B63q st63_0q lim_isSquare__lim_isLimit_L0 e63_0q (by intro o R K; rcases o with o | o <;> rfl) loops0
def as63q : List AS := [.c (.dat false (.sl (.int .i64))), .c (.int .i64), .c (.fn 115)]
def rs63q : RS := .c (.bool)
def pk63q : Bool → RL rs63q.cells := fun x => (x, ())
def up63q : RL rs63q.cells → Bool := fun d => d.1
def s63q (k : Nat) (d : AD as63q) := lim_isSquare__lim_isLimit k d.1 d.2.1
def R63q : Nat × Entry := (114, fun k nm args h => entry as63q rs63q (s63q k) pk63q nm args h)
theorem ev63q : EvOK E63q A63q 0 Proofs.Try.f114 as63q rs63q up63q s63q := by intro k d; kernel_rfl
theorem F63q : FnOK Proofs.Try.prog R63q := fn_b B63q ev63q (loops1 lk63_0q)

/-! ### giro/lim.isNet -/
noncomputable def E64q : Env := ⟨Proofs.Try.prog, fun _ => false, sumsOf []⟩
def A64q : Notes := ⟨[], []⟩
theorem B64q : EnvB E64q := env_n mixed_orders trivial
def as64q : List AS := [.c (.int .i64)]
def rs64q : RS := .c (.bool)
def pk64q : Bool → RL rs64q.cells := fun x => (x, ())
def up64q : RL rs64q.cells → Bool := fun d => d.1
def s64q (k : Nat) (d : AD as64q) := lim_isNet k d.1
def R64q : Nat × Entry := (117, fun k nm args h => entry as64q rs64q (s64q k) pk64q nm args h)
theorem ev64q : EvOK E64q A64q 0 Proofs.Try.f117 as64q rs64q up64q s64q := by intro k d; kernel_rfl
theorem F64q : FnOK Proofs.Try.prog R64q := fn_0 B64q ev64q

/-! ### giro/lim.isRow$1 -/
noncomputable def E65q : Env := ⟨Proofs.Try.prog, fun _ => false, sumsOf [R64q]⟩
def A65q : Notes := ⟨[], []⟩
theorem B65q : EnvB E65q := env_n mixed_orders ⟨F64q, trivial⟩
def as65q : List AS := [.c (.int .i64), .ptr [.fn 117]]
def rs65q : RS := .c (.bool)
def pk65q : Bool → RL rs65q.cells := fun x => (x, ())
def up65q : RL rs65q.cells → Bool := fun d => d.1
def s65q (k : Nat) (d : AD as65q) := lim_isRow_fn1__lim_isNet k d.1
def R65q : Nat × Entry := (126, fun k nm args h => entry as65q rs65q (s65q k) pk65q nm args h)
theorem ev65q : EvOK E65q A65q 0 Proofs.Try.f126 as65q rs65q up65q s65q := by intro k d; kernel_rfl
theorem F65q : FnOK Proofs.Try.prog R65q := fn_0 B65q ev65q

/-! ### slices.IndexFunc[[]int64,int64] -/
noncomputable def E66q : Env := ⟨Proofs.Try.prog, fun _ => false, sumsOf [R65q]⟩
def I66_0q : Spec := ⟨[(0, .c (.dat false (.int .i64))), (1, .c (.lit (.fn 126 [1001000]))), (7, .c (.int .i64)), (8, .c (.int .i64))], [.robox [.lit (.fn 117 [])]], []⟩
def X0_66_0q : Spec := ⟨[], [], []⟩
def X1_66_0q : Spec := ⟨[(4, .c (.int .i64))], [], []⟩
def O66_0q : List (Ex × Spec) := [(.exit 0, X0_66_0q), (.ret, X1_66_0q)]
def c66_0q (f : slices_IndexFunc_int64__lim_isRow_fn1__lim_isNet_L0T) (d : I66_0q.den) : Option (Unit ⊕ Int) := f d.1.1.1 d.1.2.2.1.1 d.1.2.2.2.1.1
def T66_0q : OutD O66_0q → (Unit ⊕ Int)
 | .inl d => .inl ()
 | .inr d => .inr d.1.1.1
def e66_0q : Elim (Unit ⊕ Int) := fun base x _ K => match x with
 | .inl x => K (.exit 0) (stOf base X0_66_0q ((), ()))
 | .inr x => K .ret (stOf base X1_66_0q (((x, ()), ()), ()))
def L66_0q : LoopSum := ⟨I66_0q, O66_0q, (Unit ⊕ Int), fun k d => c66_0q (slices_IndexFunc_int64__lim_isRow_fn1__lim_isNet_L0 k k) d, e66_0q⟩
def A66q : Notes := ⟨[], [(2, L66_0q)]⟩
theorem B66q : EnvB E66q := env_n mixed_orders ⟨F65q, trivial⟩
theorem st66_0q : StepOK E66q A66q 0 19 (loopAt (bodyOf Proofs.Try.f129) 0) I66_0q O66_0q T66_0q c66_0q slices_IndexFunc_int64__lim_isRow_fn1__lim_isNet_L0b := by intro k rec d; kernel_rfl
theorem lk66_0q : LoopOK E66q.P 1000 0 19 (loopAt (bodyOf Proofs.Try.f129) 0) L66_0q := loop_b B66q st66_0q slices_IndexFunc_int64__lim_isRow_fn1__lim_isNet_L0 e66_0q (by intro o R K; rcases o with o | o <;> rfl) loops0
def as66q : List AS := [.c (.dat false (.int .i64)), .fn 126 [[.fn 117]]]
def rs66q : RS := .c (.int .i64)
def pk66q : Int → RL rs66q.cells := fun x => (x, ())
def up66q : RL rs66q.cells → Int := fun d => d.1
def s66q (k : Nat) (d : AD as66q) := slices_IndexFunc_int64__lim_isRow_fn1__lim_isNet k d.1
def R66q : Nat × Entry := (129, fun k nm args h => entry as66q rs66q (s66q k) pk66q nm args h)
theorem ev66q : EvOK E66q A66q 0 Proofs.Try.f129 as66q rs66q up66q s66q := by intro k d; kernel_rfl
theorem F66q : FnOK Proofs.Try.prog R66q := fn_b B66q ev66q (loops1 lk66_0q)

/-! ### slices.ContainsFunc[[]int64,int64] -/
noncomputable def E67q : Env := ⟨Proofs.Try.prog, fun _ => false, sumsOf [R66q]⟩
def A67q : Notes := ⟨[], []⟩
theorem B67q : EnvB E67q := env_n mixed_orders ⟨F66q, trivial⟩
def as67q : List AS := [.c (.dat false (.int .i64)), .fn 126 [[.fn 117]]]
def rs67q : RS := .c (.bool)
def pk67q : Bool → RL rs67q.cells := fun x => (x, ())
def up67q : RL rs67q.cells → Bool := fun d => d.1
def s67q (k : Nat) (d : AD as67q) := slices_ContainsFunc_int64__lim_isRow_fn1__lim_isNet k d.1
def R67q : Nat × Entry := (125, fun k nm args h => entry as67q rs67q (s67q k) pk67q nm args h)
theorem ev67q : EvOK E67q A67q 0 Proofs.Try.f125 as67q rs67q up67q s67q := by intro k d; kernel_rfl
theorem F67q : FnOK Proofs.Try.prog R67q := fn_0 B67q ev67q

/-! ### giro/lim.isRow -/
noncomputable def E68q : Env := ⟨Proofs.Try.prog, fun _ => false, sumsOf [R67q]⟩
def A68q : Notes := ⟨[], []⟩
theorem B68q : EnvB E68q := env_n mixed_orders ⟨F67q, trivial⟩
def as68q : List AS := [.c (.dat false (.int .i64)), .c (.int .i64), .c (.fn 117)]
def rs68q : RS := .c (.bool)
def pk68q : Bool → RL rs68q.cells := fun x => (x, ())
def up68q : RL rs68q.cells → Bool := fun d => d.1
def s68q (k : Nat) (d : AD as68q) := lim_isRow__lim_isNet k d.1 d.2.1
def R68q : Nat × Entry := (116, fun k nm args h => entry as68q rs68q (s68q k) pk68q nm args h)
theorem ev68q : EvOK E68q A68q 0 Proofs.Try.f116 as68q rs68q up68q s68q := by intro k d; kernel_rfl
theorem F68q : FnOK Proofs.Try.prog R68q := fn_0 B68q ev68q

/-! ### giro/lim.isSquare -/
noncomputable def E69q : Env := ⟨Proofs.Try.prog, fun _ => false, sumsOf [R68q]⟩
def I69_0q : Spec := ⟨[(1, .c (.int .i64)), (2, .c (.lit (.fn 117 []))), (13, .c (.dat false (.sl (.int .i64)))), (14, .c (.int .i64)), (15, .c (.int .i64))], [], []⟩
def X0_69_0q : Spec := ⟨[], [], []⟩
def X1_69_0q : Spec := ⟨[(6, .c (.bool))], [], []⟩
def O69_0q : List (Ex × Spec) := [(.exit 0, X0_69_0q), (.ret, X1_69_0q)]
def c69_0q (f : lim_isSquare__lim_isNet_L0T) (d : I69_0q.den) : Option (Unit ⊕ Bool) := f d.1.1.1 d.1.2.2.1.1 d.1.2.2.2.1.1 d.1.2.2.2.2.1.1
def T69_0q : OutD O69_0q → (Unit ⊕ Bool)
 | .inl d => .inl ()
 | .inr d => .inr d.1.1.1
def e69_0q : Elim (Unit ⊕ Bool) := fun base x _ K => match x with
 | .inl x => K (.exit 0) (stOf base X0_69_0q ((), ()))
 | .inr x => K .ret (stOf base X1_69_0q (((x, ()), ()), ()))
def L69_0q : LoopSum := ⟨I69_0q, O69_0q, (Unit ⊕ Bool), fun k d => c69_0q (lim_isSquare__lim_isNet_L0 k k) d, e69_0q⟩
def A69q : Notes := ⟨[], [(4, L69_0q)]⟩
theorem B69q : EnvB E69q := env_n mixed_orders ⟨F68q, trivial⟩
theorem st69_0q : StepOK E69q A69q 0 25 (loopAt (bodyOf Proofs.Try.f114) 0) I69_0q O69_0q T69_0q c69_0q lim_isSquare__lim_isNet_L0b := by intro k rec d; kernel_rfl
theorem lk69_0q : LoopOK E69q.P 1000 0 25 (loopAt (bodyOf Proofs.Try.f114) 0) L69_0q := loop_b B69q st69_0q lim_isSquare__lim_isNet_L0 e69_0q (by intro o R K; rcases o with o | o <;> rfl) loops0
def as69q : List AS := [.c (.dat false (.sl (.int .i64))), .c (.int .i64), .c (.fn 117)]
def rs69q : RS := .c (.bool)
def pk69q : Bool → RL rs69q.cells := fun x => (x, ())
def up69q : RL rs69q.cells → Bool := fun d => d.1
def s69q (k : Nat) (d : AD as69q) := lim_isSquare__lim_isNet k d.1 d.2.1
def R69q : Nat × Entry := (114, fun k nm args h => entry as69q rs69q (s69q k) pk69q nm args h)
theorem ev69q : EvOK E69q A69q 0 Proofs.Try.f114 as69q rs69q up69q s69q := by intro k d; kernel_rfl
theorem F69q : FnOK Proofs.Try.prog R69q := fn_b B69q ev69q (loops1 lk69_0q)

/-! ### giro/lim.isTurned -/
noncomputable def E70q : Env := ⟨Proofs.Try.prog, fun _ => false, sumsOf []⟩
def I70_0q : Spec := ⟨[(0, .c (.dat false (.sl (.int .i64)))), (3, .c (.int .i64)), (7, .c (.dat false (.sl (.int .i64)))), (8, .c (.int .i64)), (9, .c (.int .i64)), (14, .c (.dat false (.int .i64))), (15, .c (.int .i64)), (16, .c (.int .i64))], [], []⟩
def X0_70_0q : Spec := ⟨[(0, .c (.dat false (.sl (.int .i64)))), (7, .c (.dat false (.sl (.int .i64)))), (8, .c (.int .i64)), (9, .c (.int .i64))], [], []⟩
def X1_70_0q : Spec := ⟨[(2, .c (.bool))], [], []⟩
def O70_0q : List (Ex × Spec) := [(.exit 2, X0_70_0q), (.ret, X1_70_0q)]
def c70_0q (f : lim_isTurned_L1T) (d : I70_0q.den) : Option lim_isTurned_L1X := f d.1.1.1 d.1.2.1.1 d.1.2.2.1.1 d.1.2.2.2.1.1 d.1.2.2.2.2.1.1 d.1.2.2.2.2.2.1.1 d.1.2.2.2.2.2.2.1.1 d.1.2.2.2.2.2.2.2.1.1
def T70_0q : OutD O70_0q → lim_isTurned_L1X
 | .inl d => .inl (d.1.1.1, d.1.2.1.1, d.1.2.2.1.1, d.1.2.2.2.1.1)
 | .inr d => .inr d.1.1.1
def e70_0q : Elim lim_isTurned_L1X := fun base x _ K => match x with
 | .inl x => K (.exit 2) (stOf base X0_70_0q (((x.1, ()), (x.2.1, ()), (x.2.2.1, ()), (x.2.2.2, ()), ()), ()))
 | .inr x => K .ret (stOf base X1_70_0q (((x, ()), ()), ()))
def L70_0q : LoopSum := ⟨I70_0q, O70_0q, lim_isTurned_L1X, fun k d => c70_0q (lim_isTurned_L1 k k) d, e70_0q⟩
def I70_1q : Spec := ⟨[(0, .c (.dat false (.sl (.int .i64)))), (7, .c (.dat false (.sl (.int .i64)))), (8, .c (.int .i64)), (9, .c (.int .i64))], [], []⟩
def X0_70_1q : Spec := ⟨[], [], []⟩
def X1_70_1q : Spec := ⟨[(2, .c (.bool))], [], []⟩
def O70_1q : List (Ex × Spec) := [(.exit 0, X0_70_1q), (.ret, X1_70_1q)]
def c70_1q (f : lim_isTurned_L0T) (d : I70_1q.den) : Option (Unit ⊕ Bool) := f d.1.1.1 d.1.2.1.1 d.1.2.2.1.1 d.1.2.2.2.1.1
def T70_1q : OutD O70_1q → (Unit ⊕ Bool)
 | .inl d => .inl ()
 | .inr d => .inr d.1.1.1
def e70_1q : Elim (Unit ⊕ Bool) := fun base x _ K => match x with
 | .inl x => K (.exit 0) (stOf base X0_70_1q ((), ()))
 | .inr x => K .ret (stOf base X1_70_1q (((x, ()), ()), ()))
def L70_1q : LoopSum := ⟨I70_1q, O70_1q, (Unit ⊕ Bool), fun k d => c70_1q (lim_isTurned_L0 k k) d, e70_1q⟩
def A70q : Notes := ⟨[], [(5, L70_0q), (2, L70_1q)]⟩
theorem B70q : EnvB E70q := env_n mixed_orders trivial
theorem st70_0q : StepOK E70q A70q 0 33 (loopAt (loopAt (bodyOf Proofs.Try.f118) 0) 0) I70_0q O70_0q T70_0q c70_0q lim_isTurned_L1b := by intro k rec d; kernel_rfl
theorem lk70_0q : LoopOK E70q.P 1000 0 33 (loopAt (loopAt (bodyOf Proofs.Try.f118) 0) 0) L70_0q := loop_b B70q st70_0q lim_isTurned_L1 e70_0q (by intro o R K; rcases o with o | o <;> rfl) loops0
theorem st70_1q : StepOK E70q A70q 0 33 (loopAt (bodyOf Proofs.Try.f118) 0) I70_1q O70_1q T70_1q c70_1q lim_isTurned_L0b := by intro k rec d; kernel_rfl
theorem lk70_1q : LoopOK E70q.P 1000 0 33 (loopAt (bodyOf Proofs.Try.f118) 0) L70_1q := loop_b B70q st70_1q lim_isTurned_L0 e70_1q (by intro o R K; rcases o with o | o <;> rfl) (loops1 lk70_0q)
def as70q : List AS := [.c (.dat false (.sl (.int .i64)))]
def rs70q : RS := .c (.bool)
def pk70q : Bool → RL rs70q.cells := fun x => (x, ())
def up70q : RL rs70q.cells → Bool := fun d => d.1
def s70q (k : Nat) (d : AD as70q) := lim_isTurned k d.1
def R70q : Nat × Entry := (118, fun k nm args h => entry as70q rs70q (s70q k) pk70q nm args h)
theorem ev70q : EvOK E70q A70q 0 Proofs.Try.f118 as70q rs70q up70q s70q := by intro k d; kernel_rfl
theorem F70q : FnOK Proofs.Try.prog R70q := fn_b B70q ev70q (loops1 lk70_1q)

/-! ### giro/lim.Is -/
noncomputable def E71q : Env := ⟨Proofs.Try.prog, fun _ => false, sumsOf [R57q, R63q, R62q, R69q, R70q]⟩
def A71q : Notes := ⟨[], []⟩
theorem B71q : EnvB E71q := env_n mixed_orders ⟨F57q, F63q, F62q, F69q, F70q, trivial⟩
def as71q : List AS := [.agg [.dat false y4q, .dat false (.sl (.int .i64)), .dat false (.int .i64), .dat false (.sl (.int .i64))]]
def rs71q : RS := .c (.bool)
def pk71q : Bool → RL rs71q.cells := fun x => (x, ())
def up71q : RL rs71q.cells → Bool := fun d => d.1
def s71q (k : Nat) (d : AD as71q) := lim_Is k d.1 d.2.1 d.2.2.1 d.2.2.2.1
def R71q : Nat × Entry := (89, fun k nm args h => entry as71q rs71q (s71q k) pk71q nm args h)
theorem ev71q : EvOK E71q A71q 0 Proofs.Try.f89 as71q rs71q up71q s71q := by intro k d; kernel_rfl
theorem F71q : FnOK Proofs.Try.prog R71q := fn_0 B71q ev71q

/-! ### giro/post.Post -/
noncomputable def E72q : Env := ⟨Proofs.Try.prog, fun _ => false, sumsOf [R48q, R53q, R27q, R71q]⟩
def I72_0q : Spec := ⟨[(2, .c (.lit (.ptr 1001000 0))), (4, .c (.lit (.ptr 1001001 0))), (7, .c (.lit (.ptr 1001002 0))), (24, .c (.dat false y8q)), (25, .c (.int .i64)), (26, .c (.int .i64))], [.box true [.dat true y4q, .dat true (.sl (.int .i64)), .dat true (.int .i64), .dat true (.sl (.int .i64))], .box true [.lit .nsl, .lit .nsl, .lit .nsl, .lit .nsl], .box true [.lit (.osl 1001003 none), .lit (.osl 1001004 none), .lit (.osl 1001005 none), .lit (.osl 1001006 none)], .arr true y4q, .mat, .arr true (.int .i64), .mat], []⟩
def X0_72_0q : Spec := ⟨[(2, .c (.lit (.ptr 1001000 0))), (4, .c (.lit (.ptr 1001001 0))), (7, .c (.lit (.ptr 1001002 0)))], [.box true [.dat true y4q, .dat true (.sl (.int .i64)), .dat true (.int .i64), .dat true (.sl (.int .i64))], .box true [.lit .nsl, .lit .nsl, .lit .nsl, .lit .nsl], .box true [.lit (.osl 1001003 none), .lit (.osl 1001004 none), .lit (.osl 1001005 none), .lit (.osl 1001006 none)], .arr true y4q, .mat, .arr true (.int .i64), .mat], []⟩
def O72_0q : List (Ex × Spec) := [(.exit 0, X0_72_0q)]
def c72_0q (f : post_Post_L0T) (d : I72_0q.den) : Option post_Post_L0X := f d.1.2.2.2.1.1 d.1.2.2.2.2.1.1 d.1.2.2.2.2.2.1.1 d.2.1.1 d.2.1.2.1 d.2.1.2.2.1 d.2.1.2.2.2.1 d.2.2.2.2.1 d.2.2.2.2.2.1 d.2.2.2.2.2.2.1 d.2.2.2.2.2.2.2.1
def T72_0q : OutD O72_0q → post_Post_L0X := fun d => (d.2.1.1, d.2.1.2.1, d.2.1.2.2.1, d.2.1.2.2.2.1, d.2.2.2.2.1, d.2.2.2.2.2.1, d.2.2.2.2.2.2.1, d.2.2.2.2.2.2.2.1)
def e72_0q : Elim post_Post_L0X := fun base x _ K => K (.exit 0) (stOf base X0_72_0q (((), (), (), ()), ((x.1, x.2.1, x.2.2.1, x.2.2.2.1, ()), (), (), x.2.2.2.2.1, x.2.2.2.2.2.1, x.2.2.2.2.2.2.1, x.2.2.2.2.2.2.2, ())))
def L72_0q : LoopSum := ⟨I72_0q, O72_0q, post_Post_L0X, fun k d => c72_0q (post_Post_L0 k k) d, e72_0q⟩
def A72q : Notes := ⟨[], [(6, L72_0q)]⟩
theorem B72q : EnvB E72q := env_n mixed_orders ⟨F48q, F53q, F27q, F71q, trivial⟩
theorem st72_0q : StepOK E72q A72q 0 104 (loopAt (bodyOf Proofs.Try.f45) 0) I72_0q O72_0q T72_0q c72_0q post_Post_L0b := by intro k rec d; kernel_rfl
theorem lk72_0q : LoopOK E72q.P 1000 0 104 (loopAt (bodyOf Proofs.Try.f45) 0) L72_0q := loop_b B72q st72_0q post_Post_L0 e72_0q (fun _ _ _ => rfl) loops0
def as72q : List AS := [.agg [.dat true y4q, .dat true (.sl (.int .i64)), .dat true (.int .i64), .dat true (.sl (.int .i64))], .c (.dat false y8q)]
def rs72q : RS := .tup [(true, [.fro y4q, .fro (.sl (.int .i64)), .fro (.int .i64), .fro (.sl (.int .i64))]), (false, [.int .i64])]
def pk72q : (List K3q) × (List (List Int)) × (List Int) × (List (List Int)) × Int → RL rs72q.cells := fun x => (x.1, x.2.1, x.2.2.1, x.2.2.2.1, x.2.2.2.2, ())
def up72q : RL rs72q.cells → (List K3q) × (List (List Int)) × (List Int) × (List (List Int)) × Int := fun d => (d.1, d.2.1, d.2.2.1, d.2.2.2.1, d.2.2.2.2.1)
def s72q (k : Nat) (d : AD as72q) := post_Post k d.1 d.2.1 d.2.2.1 d.2.2.2.1 d.2.2.2.2.1
def R72q : Nat × Entry := (45, fun k nm args h => entry as72q rs72q (s72q k) pk72q nm args h)
theorem ev72q : EvOK E72q A72q 0 Proofs.Try.f45 as72q rs72q up72q s72q := by intro k d; kernel_rfl
theorem F72q : FnOK Proofs.Try.prog R72q := fn_b B72q ev72q (loops1 lk72_0q)

/-! ### giro/row.Find$1 -/
noncomputable def E73q : Env := ⟨Proofs.Try.prog, fun _ => false, sumsOf []⟩
def A73q : Notes := ⟨[], []⟩
theorem B73q : EnvB E73q := env_n mixed_orders trivial
def as73q : List AS := [.agg [.int .i64, .int .i64, .int .i64, .int .i64, .int .i64, .int .i64, .int .i64], .ptr [.int .i64]]
def rs73q : RS := .c (.bool)
def pk73q : Bool → RL rs73q.cells := fun x => (x, ())
def up73q : RL rs73q.cells → Bool := fun d => d.1
def s73q (k : Nat) (d : AD as73q) := row_Find_fn1 k d.1 d.2.1 d.2.2.1 d.2.2.2.1 d.2.2.2.2.1 d.2.2.2.2.2.1 d.2.2.2.2.2.2.1 d.2.2.2.2.2.2.2.1
def R73q : Nat × Entry := (119, fun k nm args h => entry as73q rs73q (s73q k) pk73q nm args h)
theorem ev73q : EvOK E73q A73q 0 Proofs.Try.f119 as73q rs73q up73q s73q := by intro k d; kernel_rfl
theorem F73q : FnOK Proofs.Try.prog R73q := fn_0 B73q ev73q

/-! ### slices.IndexFunc[[]giro/api.Pay,giro/api.Pay] -/
noncomputable def E74q : Env := ⟨Proofs.Try.prog, fun _ => false, sumsOf [R73q]⟩
def I74_0q : Spec := ⟨[(0, .c (.dat false y8q)), (1, .c (.lit (.fn 119 [1001000]))), (7, .c (.int .i64)), (8, .c (.int .i64))], [.robox [.int .i64]], []⟩
def X0_74_0q : Spec := ⟨[], [], []⟩
def X1_74_0q : Spec := ⟨[(4, .c (.int .i64))], [], []⟩
def O74_0q : List (Ex × Spec) := [(.exit 0, X0_74_0q), (.ret, X1_74_0q)]
def c74_0q (f : slices_IndexFunc_Pay__row_Find_fn1_L0T) (d : I74_0q.den) : Option (Unit ⊕ Int) := f d.1.1.1 d.1.2.2.1.1 d.1.2.2.2.1.1 d.2.1.1
def T74_0q : OutD O74_0q → (Unit ⊕ Int)
 | .inl d => .inl ()
 | .inr d => .inr d.1.1.1
def e74_0q : Elim (Unit ⊕ Int) := fun base x _ K => match x with
 | .inl x => K (.exit 0) (stOf base X0_74_0q ((), ()))
 | .inr x => K .ret (stOf base X1_74_0q (((x, ()), ()), ()))
def L74_0q : LoopSum := ⟨I74_0q, O74_0q, (Unit ⊕ Int), fun k d => c74_0q (slices_IndexFunc_Pay__row_Find_fn1_L0 k k) d, e74_0q⟩
def A74q : Notes := ⟨[], [(2, L74_0q)]⟩
theorem B74q : EnvB E74q := env_n mixed_orders ⟨F73q, trivial⟩
theorem st74_0q : StepOK E74q A74q 0 19 (loopAt (bodyOf Proofs.Try.f103) 0) I74_0q O74_0q T74_0q c74_0q slices_IndexFunc_Pay__row_Find_fn1_L0b := by intro k rec d; kernel_rfl
theorem lk74_0q : LoopOK E74q.P 1000 0 19 (loopAt (bodyOf Proofs.Try.f103) 0) L74_0q := loop_b B74q st74_0q slices_IndexFunc_Pay__row_Find_fn1_L0 e74_0q (by intro o R K; rcases o with o | o <;> rfl) loops0
def as74q : List AS := [.c (.dat false y8q), .fn 119 [[.int .i64]]]
def rs74q : RS := .c (.int .i64)
def pk74q : Int → RL rs74q.cells := fun x => (x, ())
def up74q : RL rs74q.cells → Int := fun d => d.1
def s74q (k : Nat) (d : AD as74q) := slices_IndexFunc_Pay__row_Find_fn1 k d.1 d.2.1
def R74q : Nat × Entry := (103, fun k nm args h => entry as74q rs74q (s74q k) pk74q nm args h)
theorem ev74q : EvOK E74q A74q 0 Proofs.Try.f103 as74q rs74q up74q s74q := by intro k d; kernel_rfl
theorem F74q : FnOK Proofs.Try.prog R74q := fn_b B74q ev74q (loops1 lk74_0q)

/-! ### giro/row.Find -/
noncomputable def E75q : Env := ⟨Proofs.Try.prog, fun _ => false, sumsOf [R74q]⟩
def A75q : Notes := ⟨[], []⟩
theorem B75q : EnvB E75q := env_n mixed_orders ⟨F74q, trivial⟩
def as75q : List AS := [.c (.dat false y8q), .c (.int .i64)]
def rs75q : RS := .c (.int .i64)
def pk75q : Int → RL rs75q.cells := fun x => (x, ())
def up75q : RL rs75q.cells → Int := fun d => d.1
def s75q (k : Nat) (d : AD as75q) := row_Find k d.1 d.2.1
def R75q : Nat × Entry := (90, fun k nm args h => entry as75q rs75q (s75q k) pk75q nm args h)
theorem ev75q : EvOK E75q A75q 0 Proofs.Try.f90 as75q rs75q up75q s75q := by intro k d; kernel_rfl
theorem F75q : FnOK Proofs.Try.prog R75q := fn_0 B75q ev75q

/-! ### slices.Clone[[]giro/api.Pay,giro/api.Pay] -/
noncomputable def E76q : Env := ⟨Proofs.Try.prog, fun _ => false, sumsOf []⟩
def A76q : Notes := ⟨[], []⟩
theorem B76q : EnvB E76q := env_n mixed_orders trivial
def as76q : List AS := [.c (.dat false y8q)]
def rs76q : RS := .c (.own y8q)
def pk76q : List K2q → RL rs76q.cells := fun x => (x, ())
def up76q : RL rs76q.cells → List K2q := fun d => d.1
def s76q (k : Nat) (d : AD as76q) := slices_Clone_Pay k d.1
def R76q : Nat × Entry := (92, fun k nm args h => entry as76q rs76q (fun d => slices_Clone_Pay k d.1) pk76q nm args h)
theorem nil76q (k : Nat) : evF E76q A76q k 1000 0 Proofs.Try.f92 [.c .nsl] (boxHp []) (outM rs76q up76q) = slices_Clone_Pay k [] := by kernel_rfl
theorem ev76q (k : Nat) (xs : List K2q) : evF E76q A76q k 1000 0 Proofs.Try.f92 [.c (.nfl false y8q xs)] (boxHp []) (outM rs76q up76q) = slices_Clone_Pay k xs := by kernel_rfl
theorem F76q : FnOK Proofs.Try.prog R76q := fn_nil (t := y8q) (S := slices_Clone_Pay) (unpack := up76q) B76q nil76q ev76q loops0

/-! ### slices.Delete[[]giro/api.Pay,giro/api.Pay] -/
noncomputable def E77q : Env := ⟨Proofs.Try.prog, fun _ => false, sumsOf []⟩
def A77q : Notes := ⟨[], []⟩
theorem B77q : EnvB E77q := env_n mixed_orders trivial
def as77q : List AX := [.c (.own y8q), .c (.p (.int .i64)), .c (.p (.int .i64))]
def rs77q : RS := .c (.own y8q)
def os77q : List (List RC) := []
def pk77q : List K2q → RL (rs77q.cells ++ os77q.flatten) := fun x => (x, ())
def up77q : RL (rs77q.cells ++ os77q.flatten) → List K2q := fun d => d.1
def s77q (k : Nat) (d : XD as77q) := slices_Delete_Pay k d.1 d.2.1 d.2.2.1
def R77q : Nat × Entry := (91, fun k nm args h => entryX as77q rs77q os77q (s77q k) pk77q nm args h)
theorem ev77q : EvOKX E77q A77q 0 Proofs.Try.f91 as77q rs77q os77q up77q s77q := by intro k d; kernel_rfl
theorem F77q : FnOK Proofs.Try.prog R77q := fn_x B77q ev77q loops0

/-! ### giro/row.Drop -/
noncomputable def E78q : Env := ⟨Proofs.Try.prog, fun _ => false, sumsOf [R75q, R76q, R77q]⟩
def A78q : Notes := ⟨[], []⟩
theorem B78q : EnvB E78q := env_n mixed_orders ⟨F75q, F76q, F77q, trivial⟩
def as78q : List AS := [.c (.dat true y8q), .c (.int .i64)]
def rs78q : RS := .tup [(false, [.fro y8q]), (true, [.int .i64, .int .i64, .int .i64, .int .i64, .int .i64, .int .i64, .int .i64]), (false, [.int .i64])]
def pk78q : (List K2q) × Int × Int × Int × Int × Int × Int × Int × Int → RL rs78q.cells := fun x => (x.1, x.2.1, x.2.2.1, x.2.2.2.1, x.2.2.2.2.1, x.2.2.2.2.2.1, x.2.2.2.2.2.2.1, x.2.2.2.2.2.2.2.1, x.2.2.2.2.2.2.2.2, ())
def up78q : RL rs78q.cells → (List K2q) × Int × Int × Int × Int × Int × Int × Int × Int := fun d => (d.1, d.2.1, d.2.2.1, d.2.2.2.1, d.2.2.2.2.1, d.2.2.2.2.2.1, d.2.2.2.2.2.2.1, d.2.2.2.2.2.2.2.1, d.2.2.2.2.2.2.2.2.1)
def s78q (k : Nat) (d : AD as78q) := row_Drop k d.1 d.2.1
def R78q : Nat × Entry := (46, fun k nm args h => entry as78q rs78q (s78q k) pk78q nm args h)
theorem ev78q : EvOK E78q A78q 0 Proofs.Try.f46 as78q rs78q up78q s78q := by intro k d; kernel_rfl
theorem F78q : FnOK Proofs.Try.prog R78q := fn_0 B78q ev78q

/-! ### giro/knot.Run -/
noncomputable def E79q : Env := ⟨Proofs.Try.prog, fun _ => false, sumsOf [R33q, R10q, R17q, R72q, R78q]⟩
def I79_0q : Spec := ⟨[(6, .c (.lit (.ptr 1001000 0))), (7, .c (.dat true y8q)), (11, .c (.lit (.osl 1001001 none))), (38, .c (.lit (.osl 1001001 none))), (39, .c (.int .i64)), (40, .c (.int .i64))], [.box true [.dat true y4q, .dat true (.sl (.int .i64)), .dat true (.int .i64), .dat true (.sl (.int .i64))], .arr true y8q], []⟩
def X0_79_0q : Spec := ⟨[(6, .c (.lit (.ptr 1001000 0))), (7, .c (.dat true y8q)), (11, .c (.lit (.osl 1001001 none)))], [.box true [.dat true y4q, .dat true (.sl (.int .i64)), .dat true (.int .i64), .dat true (.sl (.int .i64))], .arr true y8q], []⟩
def O79_0q : List (Ex × Spec) := [(.exit 0, X0_79_0q)]
def c79_0q (f : knot_Run_L0T) (d : I79_0q.den) : Option knot_Run_L0X := f d.1.2.1.1 d.1.2.2.2.2.1.1 d.1.2.2.2.2.2.1.1 d.2.1.1 d.2.1.2.1 d.2.1.2.2.1 d.2.1.2.2.2.1 d.2.2.1
def T79_0q : OutD O79_0q → knot_Run_L0X := fun d => (d.1.2.1.1, d.2.1.1, d.2.1.2.1, d.2.1.2.2.1, d.2.1.2.2.2.1, d.2.2.1)
def e79_0q : Elim knot_Run_L0X := fun base x _ K => K (.exit 0) (stOf base X0_79_0q (((), (x.1, ()), (), ()), ((x.2.1, x.2.2.1, x.2.2.2.1, x.2.2.2.2.1, ()), x.2.2.2.2.2, ())))
def L79_0q : LoopSum := ⟨I79_0q, O79_0q, knot_Run_L0X, fun k d => c79_0q (knot_Run_L0 k k) d, e79_0q⟩
def A79q : Notes := ⟨[], [(8, L79_0q)]⟩
theorem B79q : EnvB E79q := env_n mixed_orders ⟨F33q, F10q, F17q, F72q, F78q, trivial⟩
theorem st79_0q : StepOK E79q A79q 0 56 (loopAt (bodyOf Proofs.Try.f13) 0) I79_0q O79_0q T79_0q c79_0q knot_Run_L0b := by intro k rec d; kernel_rfl
theorem lk79_0q : LoopOK E79q.P 1000 0 56 (loopAt (bodyOf Proofs.Try.f13) 0) L79_0q := loop_b B79q st79_0q knot_Run_L0 e79_0q (fun _ _ _ => rfl) loops0
def as79q : List AS := [.agg [.dat true y4q, .dat true (.sl (.int .i64)), .dat true (.int .i64), .dat true (.sl (.int .i64))], .c (.dat true y8q), .c (.int .i64)]
def rs79q : RS := .tup [(true, [.fro y4q, .fro (.sl (.int .i64)), .fro (.int .i64), .fro (.sl (.int .i64))]), (false, [.fro y8q]), (false, [.own y8q])]
def pk79q : (List K3q) × (List (List Int)) × (List Int) × (List (List Int)) × (List K2q) × (List K2q) → RL rs79q.cells := fun x => (x.1, x.2.1, x.2.2.1, x.2.2.2.1, x.2.2.2.2.1, x.2.2.2.2.2, ())
def up79q : RL rs79q.cells → (List K3q) × (List (List Int)) × (List Int) × (List (List Int)) × (List K2q) × (List K2q) := fun d => (d.1, d.2.1, d.2.2.1, d.2.2.2.1, d.2.2.2.2.1, d.2.2.2.2.2.1)
def s79q (k : Nat) (d : AD as79q) := knot_Run k d.1 d.2.1 d.2.2.1 d.2.2.2.1 d.2.2.2.2.1 d.2.2.2.2.2.1
def R79q : Nat × Entry := (13, fun k nm args h => entry as79q rs79q (s79q k) pk79q nm args h)
theorem ev79q : EvOK E79q A79q 0 Proofs.Try.f13 as79q rs79q up79q s79q := by intro k d; kernel_rfl
theorem F79q : FnOK Proofs.Try.prog R79q := fn_b B79q ev79q (loops1 lk79_0q)

/-! ### giro/view.May$1$1 -/
noncomputable def E105q : Env := ⟨Proofs.Try.prog, fun _ => false, sumsOf []⟩
def A105q : Notes := ⟨[], []⟩
theorem B105q : EnvB E105q := env_n mixed_orders trivial
def as105q : List AS := [.agg [.int .i64, .int .i64, .int .i64, .int .i64, .int .i64, .int .i64, .int .i64], .ptr [.int .i64, .int .i64, .int .i64, .int .i64, .int .i64, .int .i64, .int .i64]]
def rs105q : RS := .c (.bool)
def pk105q : Bool → RL rs105q.cells := fun x => (x, ())
def up105q : RL rs105q.cells → Bool := fun d => d.1
def s105q (k : Nat) (d : AD as105q) := view_May_fn1_fn1 k d.1 d.2.1 d.2.2.1 d.2.2.2.1 d.2.2.2.2.1 d.2.2.2.2.2.1 d.2.2.2.2.2.2.1 d.2.2.2.2.2.2.2.1 d.2.2.2.2.2.2.2.2.1 d.2.2.2.2.2.2.2.2.2.1 d.2.2.2.2.2.2.2.2.2.2.1 d.2.2.2.2.2.2.2.2.2.2.2.1 d.2.2.2.2.2.2.2.2.2.2.2.2.1 d.2.2.2.2.2.2.2.2.2.2.2.2.2.1
def R105q : Nat × Entry := (131, fun k nm args h => entry as105q rs105q (s105q k) pk105q nm args h)
theorem ev105q : EvOK E105q A105q 0 Proofs.Try.f131 as105q rs105q up105q s105q := by intro k d; kernel_rfl
theorem F105q : FnOK Proofs.Try.prog R105q := fn_0 B105q ev105q

/-! ### slices.IndexFunc[[]giro/api.Pay,giro/api.Pay] -/
noncomputable def E106q : Env := ⟨Proofs.Try.prog, fun _ => false, sumsOf [R105q]⟩
def I106_0q : Spec := ⟨[(0, .c (.dat false y8q)), (1, .c (.lit (.fn 131 [1001000]))), (7, .c (.int .i64)), (8, .c (.int .i64))], [.robox [.int .i64, .int .i64, .int .i64, .int .i64, .int .i64, .int .i64, .int .i64]], []⟩
def X0_106_0q : Spec := ⟨[], [], []⟩
def X1_106_0q : Spec := ⟨[(4, .c (.int .i64))], [], []⟩
def O106_0q : List (Ex × Spec) := [(.exit 0, X0_106_0q), (.ret, X1_106_0q)]
def c106_0q (f : slices_IndexFunc_Pay__view_May_fn1_fn1_L0T) (d : I106_0q.den) : Option (Unit ⊕ Int) := f d.1.1.1 d.1.2.2.1.1 d.1.2.2.2.1.1 d.2.1.1 d.2.1.2.1 d.2.1.2.2.1 d.2.1.2.2.2.1 d.2.1.2.2.2.2.1 d.2.1.2.2.2.2.2.1 d.2.1.2.2.2.2.2.2.1
def T106_0q : OutD O106_0q → (Unit ⊕ Int)
 | .inl d => .inl ()
 | .inr d => .inr d.1.1.1
def e106_0q : Elim (Unit ⊕ Int) := fun base x _ K => match x with
 | .inl x => K (.exit 0) (stOf base X0_106_0q ((), ()))
 | .inr x => K .ret (stOf base X1_106_0q (((x, ()), ()), ()))
def L106_0q : LoopSum := ⟨I106_0q, O106_0q, (Unit ⊕ Int), fun k d => c106_0q (slices_IndexFunc_Pay__view_May_fn1_fn1_L0 k k) d, e106_0q⟩
def A106q : Notes := ⟨[], [(2, L106_0q)]⟩
theorem B106q : EnvB E106q := env_n mixed_orders ⟨F105q, trivial⟩
theorem st106_0q : StepOK E106q A106q 0 19 (loopAt (bodyOf Proofs.Try.f103) 0) I106_0q O106_0q T106_0q c106_0q slices_IndexFunc_Pay__view_May_fn1_fn1_L0b := by intro k rec d; kernel_rfl
theorem lk106_0q : LoopOK E106q.P 1000 0 19 (loopAt (bodyOf Proofs.Try.f103) 0) L106_0q := loop_b B106q st106_0q slices_IndexFunc_Pay__view_May_fn1_fn1_L0 e106_0q (by intro o R K; rcases o with o | o <;> rfl) loops0
def as106q : List AS := [.c (.dat false y8q), .fn 131 [[.int .i64, .int .i64, .int .i64, .int .i64, .int .i64, .int .i64, .int .i64]]]
def rs106q : RS := .c (.int .i64)
def pk106q : Int → RL rs106q.cells := fun x => (x, ())
def up106q : RL rs106q.cells → Int := fun d => d.1
def s106q (k : Nat) (d : AD as106q) := slices_IndexFunc_Pay__view_May_fn1_fn1 k d.1 d.2.1 d.2.2.1 d.2.2.2.1 d.2.2.2.2.1 d.2.2.2.2.2.1 d.2.2.2.2.2.2.1 d.2.2.2.2.2.2.2.1
def R106q : Nat × Entry := (103, fun k nm args h => entry as106q rs106q (s106q k) pk106q nm args h)
theorem ev106q : EvOK E106q A106q 0 Proofs.Try.f103 as106q rs106q up106q s106q := by intro k d; kernel_rfl
theorem F106q : FnOK Proofs.Try.prog R106q := fn_b B106q ev106q (loops1 lk106_0q)

/-! ### slices.ContainsFunc[[]giro/api.Pay,giro/api.Pay] -/
noncomputable def E107q : Env := ⟨Proofs.Try.prog, fun _ => false, sumsOf [R106q]⟩
def A107q : Notes := ⟨[], []⟩
theorem B107q : EnvB E107q := env_n mixed_orders ⟨F106q, trivial⟩
def as107q : List AS := [.c (.dat false y8q), .fn 131 [[.int .i64, .int .i64, .int .i64, .int .i64, .int .i64, .int .i64, .int .i64]]]
def rs107q : RS := .c (.bool)
def pk107q : Bool → RL rs107q.cells := fun x => (x, ())
def up107q : RL rs107q.cells → Bool := fun d => d.1
def s107q (k : Nat) (d : AD as107q) := slices_ContainsFunc_Pay__view_May_fn1_fn1 k d.1 d.2.1 d.2.2.1 d.2.2.2.1 d.2.2.2.2.1 d.2.2.2.2.2.1 d.2.2.2.2.2.2.1 d.2.2.2.2.2.2.2.1
def R107q : Nat × Entry := (79, fun k nm args h => entry as107q rs107q (s107q k) pk107q nm args h)
theorem ev107q : EvOK E107q A107q 0 Proofs.Try.f79 as107q rs107q up107q s107q := by intro k d; kernel_rfl
theorem F107q : FnOK Proofs.Try.prog R107q := fn_0 B107q ev107q

/-! ### giro/view.May$1 -/
noncomputable def E108q : Env := ⟨Proofs.Try.prog, fun _ => false, sumsOf [R107q]⟩
def A108q : Notes := ⟨[], []⟩
theorem B108q : EnvB E108q := env_n mixed_orders ⟨F107q, trivial⟩
def as108q : List AX := [.agg [.int .i64, .int .i64, .int .i64, .int .i64, .int .i64, .int .i64, .int .i64], .ptr true [.map], .ptr false [.p (.dat false y8q)]]
def rs108q : RS := .c (.bool)
def os108q : List (List RC) := [[.map]]
def pk108q : Bool × (List (Int × Bool)) → RL (rs108q.cells ++ os108q.flatten) := fun x => (x.1, x.2, ())
def up108q : RL (rs108q.cells ++ os108q.flatten) → Bool × (List (Int × Bool)) := fun d => (d.1, d.2.1)
def s108q (k : Nat) (d : XD as108q) := view_May_fn1 k d.1 d.2.1 d.2.2.1 d.2.2.2.1 d.2.2.2.2.1 d.2.2.2.2.2.1 d.2.2.2.2.2.2.1 d.2.2.2.2.2.2.2.1 d.2.2.2.2.2.2.2.2.1
def R108q : Nat × Entry := (130, fun k nm args h => entryX as108q rs108q os108q (s108q k) pk108q nm args h)
theorem ev108q : EvOKX E108q A108q 3 Proofs.Try.f130 as108q rs108q os108q up108q s108q := by intro k d; kernel_rfl
theorem F108q : FnOK Proofs.Try.prog R108q := fn_x B108q ev108q loops0

/-! ### giro/view.all -/
noncomputable def E109q : Env := ⟨Proofs.Try.prog, fun _ => false, sumsOf [R108q]⟩
def I109_0q : Spec := ⟨[(1, .c (.lit (.fn 130 [1001000, 1001002]))), (5, .c (.lit (.osl 1001003 none))), (8, .c (.dat false y8q)), (9, .c (.int .i64)), (10, .c (.int .i64))], [.box true [.lit (.map 1001001)], .imap, .robox [.dat false y8q], .arr true y8q], [(5, none, y8q, false)]⟩
def X0_109_0q : Spec := ⟨[(1, .c (.lit (.fn 130 [1001000, 1001002]))), (5, .c (.lit (.osl 1001003 none)))], [.box true [.lit (.map 1001001)], .imap, .robox [.dat false y8q], .arr true y8q], []⟩
def O109_0q : List (Ex × Spec) := [(.exit 0, X0_109_0q)]
def c109_0q (f : view_all__view_May_fn1_L0T) (d : I109_0q.den) : Option view_all__view_May_fn1_L0X := f d.1.2.2.1.1 d.1.2.2.2.1.1 d.1.2.2.2.2.1.1 d.2.2.1 d.2.2.2.1.1 d.2.2.2.2.1
def T109_0q : OutD O109_0q → view_all__view_May_fn1_L0X := fun d => (d.2.2.1, d.2.2.2.1.1, d.2.2.2.2.1)
def e109_0q : Elim view_all__view_May_fn1_L0X := fun base x _ K => K (.exit 0) (stOf base X0_109_0q (((), (), ()), ((), x.1, (x.2.1, ()), x.2.2, ())))
def L109_0q : LoopSum := ⟨I109_0q, O109_0q, view_all__view_May_fn1_L0X, fun k d => c109_0q (view_all__view_May_fn1_L0 k k) d, e109_0q⟩
def A109q : Notes := ⟨[], [(3, L109_0q)]⟩
theorem B109q : EnvB E109q := env_n mixed_orders ⟨F108q, trivial⟩
theorem st109_0q : StepOK E109q A109q 2 23 (loopAt (bodyOf Proofs.Try.f74) 0) I109_0q O109_0q T109_0q c109_0q view_all__view_May_fn1_L0b := by intro k rec d; kernel_rfl
theorem lk109_0q : LoopOK E109q.P 1000 2 23 (loopAt (bodyOf Proofs.Try.f74) 0) L109_0q := loop_b B109q st109_0q view_all__view_May_fn1_L0 e109_0q (fun _ _ _ => rfl) loops0
def as109q : List AX := [.c (.p (.dat false y8q)), .fn 130 [(true, [.map]), (false, [.p (.dat false y8q)])]]
def rs109q : RS := .c (.own y8q)
def os109q : List (List RC) := [[.map]]
def pk109q : (List K2q) × (List (Int × Bool)) → RL (rs109q.cells ++ os109q.flatten) := fun x => (x.1, x.2, ())
def up109q : RL (rs109q.cells ++ os109q.flatten) → (List K2q) × (List (Int × Bool)) := fun d => (d.1, d.2.1)
def s109q (k : Nat) (d : XD as109q) := view_all__view_May_fn1 k d.1 d.2.1 d.2.2.1
def R109q : Nat × Entry := (74, fun k nm args h => entryX as109q rs109q os109q (s109q k) pk109q nm args h)
theorem ev109q : EvOKX E109q A109q 2 Proofs.Try.f74 as109q rs109q os109q up109q s109q := by intro k d; kernel_rfl
theorem F109q : FnOK Proofs.Try.prog R109q := fn_x B109q ev109q (loops1 lk109_0q)

/-! ### giro/view.May -/
noncomputable def E110q : Env := ⟨Proofs.Try.prog, fun _ => false, sumsOf [R10q, R109q]⟩
def A110q : Notes := ⟨[], []⟩
theorem B110q : EnvB E110q := env_n mixed_orders ⟨F10q, F109q, trivial⟩
def as110q : List AS := [.c (.dat false y8q), .c (.int .i64)]
def rs110q : RS := .c (.own y8q)
def pk110q : List K2q → RL rs110q.cells := fun x => (x, ())
def up110q : RL rs110q.cells → List K2q := fun d => d.1
def s110q (k : Nat) (d : AD as110q) := view_May k d.1 d.2.1
def R110q : Nat × Entry := (127, fun k nm args h => entry as110q rs110q (s110q k) pk110q nm args h)
theorem ev110q : EvOK E110q A110q 0 Proofs.Try.f127 as110q rs110q up110q s110q := by intro k d; kernel_rfl
theorem F110q : FnOK Proofs.Try.prog R110q := fn_0 B110q ev110q

/-! ### giro/fits.Fits$1 -/
noncomputable def E111q : Env := ⟨Proofs.Try.prog, fun _ => false, sumsOf [R45q]⟩
def A111q : Notes := ⟨[], []⟩
theorem B111q : EnvB E111q := env_n mixed_orders ⟨F45q, trivial⟩
def as111q : List AS := [.agg [.int .i64, .int .i64, .int .i64, .int .i64, .int .i64, .int .i64, .int .i64], .ptr [.dat false y4q, .dat false (.sl (.int .i64)), .dat false (.int .i64), .dat false (.sl (.int .i64))]]
def rs111q : RS := .c (.bool)
def pk111q : Bool → RL rs111q.cells := fun x => (x, ())
def up111q : RL rs111q.cells → Bool := fun d => d.1
def s111q (k : Nat) (d : AD as111q) := fits_Fits_fn1 k d.1 d.2.1 d.2.2.1 d.2.2.2.1 d.2.2.2.2.1 d.2.2.2.2.2.1 d.2.2.2.2.2.2.1 d.2.2.2.2.2.2.2.1 d.2.2.2.2.2.2.2.2.1 d.2.2.2.2.2.2.2.2.2.1 d.2.2.2.2.2.2.2.2.2.2.1
def R111q : Nat × Entry := (132, fun k nm args h => entry as111q rs111q (s111q k) pk111q nm args h)
theorem ev111q : EvOK E111q A111q 0 Proofs.Try.f132 as111q rs111q up111q s111q := by intro k d; kernel_rfl
theorem F111q : FnOK Proofs.Try.prog R111q := fn_0 B111q ev111q

/-! ### slices.IndexFunc[[]giro/api.Pay,giro/api.Pay] -/
noncomputable def E112q : Env := ⟨Proofs.Try.prog, fun _ => false, sumsOf [R111q]⟩
def I112_0q : Spec := ⟨[(0, .c (.dat false y8q)), (1, .c (.lit (.fn 132 [1001000]))), (7, .c (.int .i64)), (8, .c (.int .i64))], [.robox [.dat false y4q, .dat false (.sl (.int .i64)), .dat false (.int .i64), .dat false (.sl (.int .i64))]], []⟩
def X0_112_0q : Spec := ⟨[], [], []⟩
def X1_112_0q : Spec := ⟨[(4, .c (.int .i64))], [], []⟩
def O112_0q : List (Ex × Spec) := [(.exit 0, X0_112_0q), (.ret, X1_112_0q)]
def c112_0q (f : slices_IndexFunc_Pay__fits_Fits_fn1_L0T) (d : I112_0q.den) : Option (Unit ⊕ Int) := f d.1.1.1 d.1.2.2.1.1 d.1.2.2.2.1.1 d.2.1.1 d.2.1.2.1 d.2.1.2.2.1 d.2.1.2.2.2.1
def T112_0q : OutD O112_0q → (Unit ⊕ Int)
 | .inl d => .inl ()
 | .inr d => .inr d.1.1.1
def e112_0q : Elim (Unit ⊕ Int) := fun base x _ K => match x with
 | .inl x => K (.exit 0) (stOf base X0_112_0q ((), ()))
 | .inr x => K .ret (stOf base X1_112_0q (((x, ()), ()), ()))
def L112_0q : LoopSum := ⟨I112_0q, O112_0q, (Unit ⊕ Int), fun k d => c112_0q (slices_IndexFunc_Pay__fits_Fits_fn1_L0 k k) d, e112_0q⟩
def A112q : Notes := ⟨[], [(2, L112_0q)]⟩
theorem B112q : EnvB E112q := env_n mixed_orders ⟨F111q, trivial⟩
theorem st112_0q : StepOK E112q A112q 0 19 (loopAt (bodyOf Proofs.Try.f103) 0) I112_0q O112_0q T112_0q c112_0q slices_IndexFunc_Pay__fits_Fits_fn1_L0b := by intro k rec d; kernel_rfl
theorem lk112_0q : LoopOK E112q.P 1000 0 19 (loopAt (bodyOf Proofs.Try.f103) 0) L112_0q := loop_b B112q st112_0q slices_IndexFunc_Pay__fits_Fits_fn1_L0 e112_0q (by intro o R K; rcases o with o | o <;> rfl) loops0
def as112q : List AS := [.c (.dat false y8q), .fn 132 [[.dat false y4q, .dat false (.sl (.int .i64)), .dat false (.int .i64), .dat false (.sl (.int .i64))]]]
def rs112q : RS := .c (.int .i64)
def pk112q : Int → RL rs112q.cells := fun x => (x, ())
def up112q : RL rs112q.cells → Int := fun d => d.1
def s112q (k : Nat) (d : AD as112q) := slices_IndexFunc_Pay__fits_Fits_fn1 k d.1 d.2.1 d.2.2.1 d.2.2.2.1 d.2.2.2.2.1
def R112q : Nat × Entry := (103, fun k nm args h => entry as112q rs112q (s112q k) pk112q nm args h)
theorem ev112q : EvOK E112q A112q 0 Proofs.Try.f103 as112q rs112q up112q s112q := by intro k d; kernel_rfl
theorem F112q : FnOK Proofs.Try.prog R112q := fn_b B112q ev112q (loops1 lk112_0q)

/-! ### slices.ContainsFunc[[]giro/api.Pay,giro/api.Pay] -/
noncomputable def E113q : Env := ⟨Proofs.Try.prog, fun _ => false, sumsOf [R112q]⟩
def A113q : Notes := ⟨[], []⟩
theorem B113q : EnvB E113q := env_n mixed_orders ⟨F112q, trivial⟩
def as113q : List AS := [.c (.dat false y8q), .fn 132 [[.dat false y4q, .dat false (.sl (.int .i64)), .dat false (.int .i64), .dat false (.sl (.int .i64))]]]
def rs113q : RS := .c (.bool)
def pk113q : Bool → RL rs113q.cells := fun x => (x, ())
def up113q : RL rs113q.cells → Bool := fun d => d.1
def s113q (k : Nat) (d : AD as113q) := slices_ContainsFunc_Pay__fits_Fits_fn1 k d.1 d.2.1 d.2.2.1 d.2.2.2.1 d.2.2.2.2.1
def R113q : Nat × Entry := (79, fun k nm args h => entry as113q rs113q (s113q k) pk113q nm args h)
theorem ev113q : EvOK E113q A113q 0 Proofs.Try.f79 as113q rs113q up113q s113q := by intro k d; kernel_rfl
theorem F113q : FnOK Proofs.Try.prog R113q := fn_0 B113q ev113q

/-! ### giro/fits.Fits -/
noncomputable def E114q : Env := ⟨Proofs.Try.prog, fun _ => false, sumsOf [R113q, R32q]⟩
def A114q : Notes := ⟨[], []⟩
theorem B114q : EnvB E114q := env_n mixed_orders ⟨F113q, F32q, trivial⟩
def as114q : List AS := [.agg [.dat false y4q, .dat false (.sl (.int .i64)), .dat false (.int .i64), .dat false (.sl (.int .i64))], .c (.dat false y8q)]
def rs114q : RS := .c (.bool)
def pk114q : Bool → RL rs114q.cells := fun x => (x, ())
def up114q : RL rs114q.cells → Bool := fun d => d.1
def s114q (k : Nat) (d : AD as114q) := fits_Fits k d.1 d.2.1 d.2.2.1 d.2.2.2.1 d.2.2.2.2.1
def R114q : Nat × Entry := (128, fun k nm args h => entry as114q rs114q (s114q k) pk114q nm args h)
theorem ev114q : EvOK E114q A114q 0 Proofs.Try.f128 as114q rs114q up114q s114q := by intro k d; kernel_rfl
theorem F114q : FnOK Proofs.Try.prog R114q := fn_0 B114q ev114q

/-! ### giro/free.next -/
noncomputable def E115q : Env := ⟨Proofs.Try.prog, fun _ => false, sumsOf [R110q, R114q, R72q]⟩
def I115_0q : Spec := ⟨[(3, .c (.lit (.ptr 1001000 0))), (6, .c (.lit (.ptr 1001001 0))), (7, .c (.lit (.ptr 1001002 0))), (15, .c (.lit (.osl 1001003 none))), (16, .c (.int .i64)), (17, .c (.int .i64))], [.box true [.dat true y4q, .dat true (.sl (.int .i64)), .dat true (.int .i64), .dat true (.sl (.int .i64))], .box true [.int .i64, .int .i64, .int .i64, .int .i64, .int .i64, .int .i64, .int .i64], .box true [.lit .nsl, .lit .nsl, .lit .nsl, .lit .nsl], .arr true y8q], []⟩
def X0_115_0q : Spec := ⟨[(3, .c (.lit (.ptr 1001000 0))), (6, .c (.lit (.ptr 1001001 0))), (7, .c (.lit (.ptr 1001002 0)))], [.box true [.dat true y4q, .dat true (.sl (.int .i64)), .dat true (.int .i64), .dat true (.sl (.int .i64))], .box true [.int .i64, .int .i64, .int .i64, .int .i64, .int .i64, .int .i64, .int .i64], .box true [.lit .nsl, .lit .nsl, .lit .nsl, .lit .nsl]], []⟩
def X1_115_0q : Spec := ⟨[(6, .c (.lit (.ptr 1001000 0))), (7, .c (.lit (.ptr 1001001 0))), (8, .c (.bool))], [.box true [.int .i64, .int .i64, .int .i64, .int .i64, .int .i64, .int .i64, .int .i64], .box true [.dat true y4q, .dat true (.sl (.int .i64)), .dat true (.int .i64), .dat true (.sl (.int .i64))]], []⟩
def O115_0q : List (Ex × Spec) := [(.exit 0, X0_115_0q), (.ret, X1_115_0q)]
def c115_0q (f : free_next_L0T) (d : I115_0q.den) : Option free_next_L0X := f d.1.2.2.2.2.1.1 d.1.2.2.2.2.2.1.1 d.2.1.1 d.2.1.2.1 d.2.1.2.2.1 d.2.1.2.2.2.1 d.2.2.1.1 d.2.2.1.2.1 d.2.2.1.2.2.1 d.2.2.1.2.2.2.1 d.2.2.1.2.2.2.2.1 d.2.2.1.2.2.2.2.2.1 d.2.2.1.2.2.2.2.2.2.1 d.2.2.2.2.1
def T115_0q : OutD O115_0q → free_next_L0X
 | .inl d => .inl (d.2.1.1, d.2.1.2.1, d.2.1.2.2.1, d.2.1.2.2.2.1, d.2.2.1.1, d.2.2.1.2.1, d.2.2.1.2.2.1, d.2.2.1.2.2.2.1, d.2.2.1.2.2.2.2.1, d.2.2.1.2.2.2.2.2.1, d.2.2.1.2.2.2.2.2.2.1)
 | .inr d => .inr (d.1.2.2.1.1, d.2.1.1, d.2.1.2.1, d.2.1.2.2.1, d.2.1.2.2.2.1, d.2.1.2.2.2.2.1, d.2.1.2.2.2.2.2.1, d.2.1.2.2.2.2.2.2.1, d.2.2.1.1, d.2.2.1.2.1, d.2.2.1.2.2.1, d.2.2.1.2.2.2.1)
def e115_0q : Elim free_next_L0X := fun base x _ K => match x with
 | .inl x => K (.exit 0) (stOf base X0_115_0q (((), (), (), ()), ((x.1, x.2.1, x.2.2.1, x.2.2.2.1, ()), (x.2.2.2.2.1, x.2.2.2.2.2.1, x.2.2.2.2.2.2.1, x.2.2.2.2.2.2.2.1, x.2.2.2.2.2.2.2.2.1, x.2.2.2.2.2.2.2.2.2.1, x.2.2.2.2.2.2.2.2.2.2, ()), (), ())))
 | .inr x => K .ret (stOf base X1_115_0q (((), (), (x.1, ()), ()), ((x.2.1, x.2.2.1, x.2.2.2.1, x.2.2.2.2.1, x.2.2.2.2.2.1, x.2.2.2.2.2.2.1, x.2.2.2.2.2.2.2.1, ()), (x.2.2.2.2.2.2.2.2.1, x.2.2.2.2.2.2.2.2.2.1, x.2.2.2.2.2.2.2.2.2.2.1, x.2.2.2.2.2.2.2.2.2.2.2, ()), ())))
def L115_0q : LoopSum := ⟨I115_0q, O115_0q, free_next_L0X, fun k d => c115_0q (free_next_L0 k k) d, e115_0q⟩
def A115q : Notes := ⟨[], [(2, L115_0q)]⟩
theorem B115q : EnvB E115q := env_n mixed_orders ⟨F110q, F114q, F72q, trivial⟩
theorem st115_0q : StepOK E115q A115q 0 40 (loopAt (bodyOf Proofs.Try.f120) 0) I115_0q O115_0q T115_0q c115_0q free_next_L0b := by intro k rec d; kernel_rfl
theorem lk115_0q : LoopOK E115q.P 1000 0 40 (loopAt (bodyOf Proofs.Try.f120) 0) L115_0q := loop_b B115q st115_0q free_next_L0 e115_0q (by intro o R K; rcases o with o | o <;> rfl) loops0
def as115q : List AS := [.agg [.dat true y4q, .dat true (.sl (.int .i64)), .dat true (.int .i64), .dat true (.sl (.int .i64))], .c (.dat true y8q), .c (.int .i64)]
def rs115q : RS := .tup [(true, [.int .i64, .int .i64, .int .i64, .int .i64, .int .i64, .int .i64, .int .i64]), (true, [.fro y4q, .fro (.sl (.int .i64)), .fro (.int .i64), .fro (.sl (.int .i64))]), (false, [.bool])]
def pk115q : Int × Int × Int × Int × Int × Int × Int × (List K3q) × (List (List Int)) × (List Int) × (List (List Int)) × Bool → RL rs115q.cells := fun x => (x.1, x.2.1, x.2.2.1, x.2.2.2.1, x.2.2.2.2.1, x.2.2.2.2.2.1, x.2.2.2.2.2.2.1, x.2.2.2.2.2.2.2.1, x.2.2.2.2.2.2.2.2.1, x.2.2.2.2.2.2.2.2.2.1, x.2.2.2.2.2.2.2.2.2.2.1, x.2.2.2.2.2.2.2.2.2.2.2, ())
def up115q : RL rs115q.cells → Int × Int × Int × Int × Int × Int × Int × (List K3q) × (List (List Int)) × (List Int) × (List (List Int)) × Bool := fun d => (d.1, d.2.1, d.2.2.1, d.2.2.2.1, d.2.2.2.2.1, d.2.2.2.2.2.1, d.2.2.2.2.2.2.1, d.2.2.2.2.2.2.2.1, d.2.2.2.2.2.2.2.2.1, d.2.2.2.2.2.2.2.2.2.1, d.2.2.2.2.2.2.2.2.2.2.1, d.2.2.2.2.2.2.2.2.2.2.2.1)
def s115q (k : Nat) (d : AD as115q) := free_next k d.1 d.2.1 d.2.2.1 d.2.2.2.1 d.2.2.2.2.1 d.2.2.2.2.2.1
def R115q : Nat × Entry := (120, fun k nm args h => entry as115q rs115q (s115q k) pk115q nm args h)
theorem ev115q : EvOK E115q A115q 0 Proofs.Try.f120 as115q rs115q up115q s115q := by intro k d; kernel_rfl
theorem F115q : FnOK Proofs.Try.prog R115q := fn_b B115q ev115q (loops1 lk115_0q)

/-! ### giro/free.Run -/
noncomputable def E116q : Env := ⟨Proofs.Try.prog, fun _ => false, sumsOf [R115q, R78q]⟩
def I116_0q : Spec := ⟨[(2, .c (.int .i64)), (6, .c (.lit (.ptr 1001000 0))), (7, .c (.dat true y8q)), (8, .c (.lit (.osl 1001001 none)))], [.box true [.dat true y4q, .dat true (.sl (.int .i64)), .dat true (.int .i64), .dat true (.sl (.int .i64))], .arr true y8q], [(8, none, y8q, false)]⟩
def X0_116_0q : Spec := ⟨[(6, .c (.lit (.ptr 1001000 0))), (7, .c (.dat true y8q)), (8, .c (.lit (.osl 1001001 none)))], [.box true [.dat true y4q, .dat true (.sl (.int .i64)), .dat true (.int .i64), .dat true (.sl (.int .i64))], .arr true y8q], []⟩
def O116_0q : List (Ex × Spec) := [(.ret, X0_116_0q)]
def c116_0q (f : free_Run_L0T) (d : I116_0q.den) : Option free_Run_L0X := f d.1.1.1 d.1.2.2.1.1 d.2.1.1 d.2.1.2.1 d.2.1.2.2.1 d.2.1.2.2.2.1 d.2.2.1
def T116_0q : OutD O116_0q → free_Run_L0X := fun d => (d.1.2.1.1, d.2.1.1, d.2.1.2.1, d.2.1.2.2.1, d.2.1.2.2.2.1, d.2.2.1)
def e116_0q : Elim free_Run_L0X := fun base x _ K => K .ret (stOf base X0_116_0q (((), (x.1, ()), (), ()), ((x.2.1, x.2.2.1, x.2.2.2.1, x.2.2.2.2.1, ()), x.2.2.2.2.2, ())))
def L116_0q : LoopSum := ⟨I116_0q, O116_0q, free_Run_L0X, fun k d => c116_0q (free_Run_L0 k k) d, e116_0q⟩
def A116q : Notes := ⟨[], [(2, L116_0q)]⟩
theorem B116q : EnvB E116q := env_n mixed_orders ⟨F115q, F78q, trivial⟩
theorem st116_0q : StepOK E116q A116q 0 40 (loopAt (bodyOf Proofs.Try.f97) 0) I116_0q O116_0q T116_0q c116_0q free_Run_L0b := by intro k rec d; kernel_rfl
theorem lk116_0q : LoopOK E116q.P 1000 0 40 (loopAt (bodyOf Proofs.Try.f97) 0) L116_0q := loop_b B116q st116_0q free_Run_L0 e116_0q (fun _ _ _ => rfl) loops0
def as116q : List AS := [.agg [.dat true y4q, .dat true (.sl (.int .i64)), .dat true (.int .i64), .dat true (.sl (.int .i64))], .c (.dat true y8q), .c (.int .i64)]
def rs116q : RS := .tup [(true, [.fro y4q, .fro (.sl (.int .i64)), .fro (.int .i64), .fro (.sl (.int .i64))]), (false, [.fro y8q]), (false, [.own y8q])]
def pk116q : (List K3q) × (List (List Int)) × (List Int) × (List (List Int)) × (List K2q) × (List K2q) → RL rs116q.cells := fun x => (x.1, x.2.1, x.2.2.1, x.2.2.2.1, x.2.2.2.2.1, x.2.2.2.2.2, ())
def up116q : RL rs116q.cells → (List K3q) × (List (List Int)) × (List Int) × (List (List Int)) × (List K2q) × (List K2q) := fun d => (d.1, d.2.1, d.2.2.1, d.2.2.2.1, d.2.2.2.2.1, d.2.2.2.2.2.1)
def s116q (k : Nat) (d : AD as116q) := free_Run k d.1 d.2.1 d.2.2.1 d.2.2.2.1 d.2.2.2.2.1 d.2.2.2.2.2.1
def R116q : Nat × Entry := (97, fun k nm args h => entry as116q rs116q (s116q k) pk116q nm args h)
theorem ev116q : EvOK E116q A116q 0 Proofs.Try.f97 as116q rs116q up116q s116q := by intro k d; kernel_rfl
theorem F116q : FnOK Proofs.Try.prog R116q := fn_b B116q ev116q (loops1 lk116_0q)

/-! ### giro/pair.next -/
noncomputable def E117q : Env := ⟨Proofs.Try.prog, fun _ => false, sumsOf [R110q, R114q, R72q]⟩
def I117_0q : Spec := ⟨[(3, .c (.lit (.ptr 1001000 0))), (6, .c (.lit (.ptr 1001001 0))), (8, .c (.lit (.osl 1001002 none))), (10, .c (.lit (.ptr 1001003 0))), (18, .c (.lit (.osl 1001002 none))), (19, .c (.int .i64)), (20, .c (.int .i64)), (24, .c (.lit (.osl 1001002 none))), (25, .c (.int .i64)), (26, .c (.int .i64))], [.box true [.dat true y4q, .dat true (.sl (.int .i64)), .dat true (.int .i64), .dat true (.sl (.int .i64))], .box true [.int .i64, .int .i64, .int .i64, .int .i64, .int .i64, .int .i64, .int .i64, .int .i64, .int .i64, .int .i64, .int .i64, .int .i64, .int .i64, .int .i64, .lit .nsl, .lit .nsl, .lit .nsl, .lit .nsl], .arr true y8q, .box true [.int .i64, .int .i64, .int .i64, .int .i64, .int .i64, .int .i64, .int .i64]], []⟩
def X0_117_0q : Spec := ⟨[(3, .c (.lit (.ptr 1001000 0))), (6, .c (.lit (.ptr 1001001 0))), (8, .c (.lit (.osl 1001002 none))), (18, .c (.lit (.osl 1001002 none))), (19, .c (.int .i64)), (20, .c (.int .i64))], [.box true [.dat true y4q, .dat true (.sl (.int .i64)), .dat true (.int .i64), .dat true (.sl (.int .i64))], .box true [.int .i64, .int .i64, .int .i64, .int .i64, .int .i64, .int .i64, .int .i64, .int .i64, .int .i64, .int .i64, .int .i64, .int .i64, .int .i64, .int .i64, .lit .nsl, .lit .nsl, .lit .nsl, .lit .nsl], .arr true y8q], []⟩
def X1_117_0q : Spec := ⟨[(6, .c (.lit (.ptr 1001000 0))), (7, .c (.bool))], [.box true [.int .i64, .int .i64, .int .i64, .int .i64, .int .i64, .int .i64, .int .i64, .int .i64, .int .i64, .int .i64, .int .i64, .int .i64, .int .i64, .int .i64, .dat true y4q, .dat true (.sl (.int .i64)), .dat true (.int .i64), .dat true (.sl (.int .i64))]], []⟩
def O117_0q : List (Ex × Spec) := [(.exit 2, X0_117_0q), (.ret, X1_117_0q)]
def c117_0q (f : pair_next_L1T) (d : I117_0q.den) : Option pair_next_L1X := f d.1.2.2.2.2.2.1.1 d.1.2.2.2.2.2.2.1.1 d.1.2.2.2.2.2.2.2.2.1.1 d.1.2.2.2.2.2.2.2.2.2.1.1 d.2.1.1 d.2.1.2.1 d.2.1.2.2.1 d.2.1.2.2.2.1 d.2.2.1.1 d.2.2.1.2.1 d.2.2.1.2.2.1 d.2.2.1.2.2.2.1 d.2.2.1.2.2.2.2.1 d.2.2.1.2.2.2.2.2.1 d.2.2.1.2.2.2.2.2.2.1 d.2.2.1.2.2.2.2.2.2.2.1 d.2.2.1.2.2.2.2.2.2.2.2.1 d.2.2.1.2.2.2.2.2.2.2.2.2.1 d.2.2.1.2.2.2.2.2.2.2.2.2.2.1 d.2.2.1.2.2.2.2.2.2.2.2.2.2.2.1 d.2.2.1.2.2.2.2.2.2.2.2.2.2.2.2.1 d.2.2.1.2.2.2.2.2.2.2.2.2.2.2.2.2.1 d.2.2.2.1 d.2.2.2.2.1.1 d.2.2.2.2.1.2.1 d.2.2.2.2.1.2.2.1 d.2.2.2.2.1.2.2.2.1 d.2.2.2.2.1.2.2.2.2.1 d.2.2.2.2.1.2.2.2.2.2.1 d.2.2.2.2.1.2.2.2.2.2.2.1
def T117_0q : OutD O117_0q → pair_next_L1X
 | .inl d => .inl (d.1.2.2.2.2.1.1, d.1.2.2.2.2.2.1.1, d.2.1.1, d.2.1.2.1, d.2.1.2.2.1, d.2.1.2.2.2.1, d.2.2.1.1, d.2.2.1.2.1, d.2.2.1.2.2.1, d.2.2.1.2.2.2.1, d.2.2.1.2.2.2.2.1, d.2.2.1.2.2.2.2.2.1, d.2.2.1.2.2.2.2.2.2.1, d.2.2.1.2.2.2.2.2.2.2.1, d.2.2.1.2.2.2.2.2.2.2.2.1, d.2.2.1.2.2.2.2.2.2.2.2.2.1, d.2.2.1.2.2.2.2.2.2.2.2.2.2.1, d.2.2.1.2.2.2.2.2.2.2.2.2.2.2.1, d.2.2.1.2.2.2.2.2.2.2.2.2.2.2.2.1, d.2.2.1.2.2.2.2.2.2.2.2.2.2.2.2.2.1, d.2.2.2.1)
 | .inr d => .inr (d.1.2.1.1, d.2.1.1, d.2.1.2.1, d.2.1.2.2.1, d.2.1.2.2.2.1, d.2.1.2.2.2.2.1, d.2.1.2.2.2.2.2.1, d.2.1.2.2.2.2.2.2.1, d.2.1.2.2.2.2.2.2.2.1, d.2.1.2.2.2.2.2.2.2.2.1, d.2.1.2.2.2.2.2.2.2.2.2.1, d.2.1.2.2.2.2.2.2.2.2.2.2.1, d.2.1.2.2.2.2.2.2.2.2.2.2.2.1, d.2.1.2.2.2.2.2.2.2.2.2.2.2.2.1, d.2.1.2.2.2.2.2.2.2.2.2.2.2.2.2.1, d.2.1.2.2.2.2.2.2.2.2.2.2.2.2.2.2.1, d.2.1.2.2.2.2.2.2.2.2.2.2.2.2.2.2.2.1, d.2.1.2.2.2.2.2.2.2.2.2.2.2.2.2.2.2.2.1, d.2.1.2.2.2.2.2.2.2.2.2.2.2.2.2.2.2.2.2.1)
def e117_0q : Elim pair_next_L1X := fun base x _ K => match x with
 | .inl x => K (.exit 2) (stOf base X0_117_0q (((), (), (), (), (x.1, ()), (x.2.1, ()), ()), ((x.2.2.1, x.2.2.2.1, x.2.2.2.2.1, x.2.2.2.2.2.1, ()), (x.2.2.2.2.2.2.1, x.2.2.2.2.2.2.2.1, x.2.2.2.2.2.2.2.2.1, x.2.2.2.2.2.2.2.2.2.1, x.2.2.2.2.2.2.2.2.2.2.1, x.2.2.2.2.2.2.2.2.2.2.2.1, x.2.2.2.2.2.2.2.2.2.2.2.2.1, x.2.2.2.2.2.2.2.2.2.2.2.2.2.1, x.2.2.2.2.2.2.2.2.2.2.2.2.2.2.1, x.2.2.2.2.2.2.2.2.2.2.2.2.2.2.2.1, x.2.2.2.2.2.2.2.2.2.2.2.2.2.2.2.2.1, x.2.2.2.2.2.2.2.2.2.2.2.2.2.2.2.2.2.1, x.2.2.2.2.2.2.2.2.2.2.2.2.2.2.2.2.2.2.1, x.2.2.2.2.2.2.2.2.2.2.2.2.2.2.2.2.2.2.2.1, ()), x.2.2.2.2.2.2.2.2.2.2.2.2.2.2.2.2.2.2.2.2, ())))
 | .inr x => K .ret (stOf base X1_117_0q (((), (x.1, ()), ()), ((x.2.1, x.2.2.1, x.2.2.2.1, x.2.2.2.2.1, x.2.2.2.2.2.1, x.2.2.2.2.2.2.1, x.2.2.2.2.2.2.2.1, x.2.2.2.2.2.2.2.2.1, x.2.2.2.2.2.2.2.2.2.1, x.2.2.2.2.2.2.2.2.2.2.1, x.2.2.2.2.2.2.2.2.2.2.2.1, x.2.2.2.2.2.2.2.2.2.2.2.2.1, x.2.2.2.2.2.2.2.2.2.2.2.2.2.1, x.2.2.2.2.2.2.2.2.2.2.2.2.2.2.1, x.2.2.2.2.2.2.2.2.2.2.2.2.2.2.2.1, x.2.2.2.2.2.2.2.2.2.2.2.2.2.2.2.2.1, x.2.2.2.2.2.2.2.2.2.2.2.2.2.2.2.2.2.1, x.2.2.2.2.2.2.2.2.2.2.2.2.2.2.2.2.2.2, ()), ())))
def L117_0q : LoopSum := ⟨I117_0q, O117_0q, pair_next_L1X, fun k d => c117_0q (pair_next_L1 k k) d, e117_0q⟩
def I117_1q : Spec := ⟨[(3, .c (.lit (.ptr 1001000 0))), (6, .c (.lit (.ptr 1001001 0))), (8, .c (.lit (.osl 1001002 none))), (18, .c (.lit (.osl 1001002 none))), (19, .c (.int .i64)), (20, .c (.int .i64))], [.box true [.dat true y4q, .dat true (.sl (.int .i64)), .dat true (.int .i64), .dat true (.sl (.int .i64))], .box true [.int .i64, .int .i64, .int .i64, .int .i64, .int .i64, .int .i64, .int .i64, .int .i64, .int .i64, .int .i64, .int .i64, .int .i64, .int .i64, .int .i64, .lit .nsl, .lit .nsl, .lit .nsl, .lit .nsl], .arr true y8q], []⟩
def X0_117_1q : Spec := ⟨[(6, .c (.lit (.ptr 1001000 0)))], [.box true [.int .i64, .int .i64, .int .i64, .int .i64, .int .i64, .int .i64, .int .i64, .int .i64, .int .i64, .int .i64, .int .i64, .int .i64, .int .i64, .int .i64, .lit .nsl, .lit .nsl, .lit .nsl, .lit .nsl]], []⟩
def X1_117_1q : Spec := ⟨[(6, .c (.lit (.ptr 1001000 0))), (7, .c (.bool))], [.box true [.int .i64, .int .i64, .int .i64, .int .i64, .int .i64, .int .i64, .int .i64, .int .i64, .int .i64, .int .i64, .int .i64, .int .i64, .int .i64, .int .i64, .dat true y4q, .dat true (.sl (.int .i64)), .dat true (.int .i64), .dat true (.sl (.int .i64))]], []⟩
def O117_1q : List (Ex × Spec) := [(.exit 0, X0_117_1q), (.ret, X1_117_1q)]
def c117_1q (f : pair_next_L0T) (d : I117_1q.den) : Option pair_next_L0X := f d.1.2.2.2.2.1.1 d.1.2.2.2.2.2.1.1 d.2.1.1 d.2.1.2.1 d.2.1.2.2.1 d.2.1.2.2.2.1 d.2.2.1.1 d.2.2.1.2.1 d.2.2.1.2.2.1 d.2.2.1.2.2.2.1 d.2.2.1.2.2.2.2.1 d.2.2.1.2.2.2.2.2.1 d.2.2.1.2.2.2.2.2.2.1 d.2.2.1.2.2.2.2.2.2.2.1 d.2.2.1.2.2.2.2.2.2.2.2.1 d.2.2.1.2.2.2.2.2.2.2.2.2.1 d.2.2.1.2.2.2.2.2.2.2.2.2.2.1 d.2.2.1.2.2.2.2.2.2.2.2.2.2.2.1 d.2.2.1.2.2.2.2.2.2.2.2.2.2.2.2.1 d.2.2.1.2.2.2.2.2.2.2.2.2.2.2.2.2.1 d.2.2.2.1
def T117_1q : OutD O117_1q → pair_next_L0X
 | .inl d => .inl (d.2.1.1, d.2.1.2.1, d.2.1.2.2.1, d.2.1.2.2.2.1, d.2.1.2.2.2.2.1, d.2.1.2.2.2.2.2.1, d.2.1.2.2.2.2.2.2.1, d.2.1.2.2.2.2.2.2.2.1, d.2.1.2.2.2.2.2.2.2.2.1, d.2.1.2.2.2.2.2.2.2.2.2.1, d.2.1.2.2.2.2.2.2.2.2.2.2.1, d.2.1.2.2.2.2.2.2.2.2.2.2.2.1, d.2.1.2.2.2.2.2.2.2.2.2.2.2.2.1, d.2.1.2.2.2.2.2.2.2.2.2.2.2.2.2.1)
 | .inr d => .inr (d.1.2.1.1, d.2.1.1, d.2.1.2.1, d.2.1.2.2.1, d.2.1.2.2.2.1, d.2.1.2.2.2.2.1, d.2.1.2.2.2.2.2.1, d.2.1.2.2.2.2.2.2.1, d.2.1.2.2.2.2.2.2.2.1, d.2.1.2.2.2.2.2.2.2.2.1, d.2.1.2.2.2.2.2.2.2.2.2.1, d.2.1.2.2.2.2.2.2.2.2.2.2.1, d.2.1.2.2.2.2.2.2.2.2.2.2.2.1, d.2.1.2.2.2.2.2.2.2.2.2.2.2.2.1, d.2.1.2.2.2.2.2.2.2.2.2.2.2.2.2.1, d.2.1.2.2.2.2.2.2.2.2.2.2.2.2.2.2.1, d.2.1.2.2.2.2.2.2.2.2.2.2.2.2.2.2.2.1, d.2.1.2.2.2.2.2.2.2.2.2.2.2.2.2.2.2.2.1, d.2.1.2.2.2.2.2.2.2.2.2.2.2.2.2.2.2.2.2.1)
def e117_1q : Elim pair_next_L0X := fun base x _ K => match x with
 | .inl x => K (.exit 0) (stOf base X0_117_1q (((), ()), ((x.1, x.2.1, x.2.2.1, x.2.2.2.1, x.2.2.2.2.1, x.2.2.2.2.2.1, x.2.2.2.2.2.2.1, x.2.2.2.2.2.2.2.1, x.2.2.2.2.2.2.2.2.1, x.2.2.2.2.2.2.2.2.2.1, x.2.2.2.2.2.2.2.2.2.2.1, x.2.2.2.2.2.2.2.2.2.2.2.1, x.2.2.2.2.2.2.2.2.2.2.2.2.1, x.2.2.2.2.2.2.2.2.2.2.2.2.2, ()), ())))
 | .inr x => K .ret (stOf base X1_117_1q (((), (x.1, ()), ()), ((x.2.1, x.2.2.1, x.2.2.2.1, x.2.2.2.2.1, x.2.2.2.2.2.1, x.2.2.2.2.2.2.1, x.2.2.2.2.2.2.2.1, x.2.2.2.2.2.2.2.2.1, x.2.2.2.2.2.2.2.2.2.1, x.2.2.2.2.2.2.2.2.2.2.1, x.2.2.2.2.2.2.2.2.2.2.2.1, x.2.2.2.2.2.2.2.2.2.2.2.2.1, x.2.2.2.2.2.2.2.2.2.2.2.2.2.1, x.2.2.2.2.2.2.2.2.2.2.2.2.2.2.1, x.2.2.2.2.2.2.2.2.2.2.2.2.2.2.2.1, x.2.2.2.2.2.2.2.2.2.2.2.2.2.2.2.2.1, x.2.2.2.2.2.2.2.2.2.2.2.2.2.2.2.2.2.1, x.2.2.2.2.2.2.2.2.2.2.2.2.2.2.2.2.2.2, ()), ())))
def L117_1q : LoopSum := ⟨I117_1q, O117_1q, pair_next_L0X, fun k d => c117_1q (pair_next_L0 k k) d, e117_1q⟩
def A117q : Notes := ⟨[], [(6, L117_0q), (3, L117_1q)]⟩
theorem B117q : EnvB E117q := env_n mixed_orders ⟨F110q, F114q, F72q, trivial⟩
theorem st117_0q : StepOK E117q A117q 0 74 (loopAt (loopAt (bodyOf Proofs.Try.f121) 0) 0) I117_0q O117_0q T117_0q c117_0q pair_next_L1b := by intro k rec d; kernel_rfl
theorem lk117_0q : LoopOK E117q.P 1000 0 74 (loopAt (loopAt (bodyOf Proofs.Try.f121) 0) 0) L117_0q := loop_b B117q st117_0q pair_next_L1 e117_0q (by intro o R K; rcases o with o | o <;> rfl) loops0
theorem st117_1q : StepOK E117q A117q 0 74 (loopAt (bodyOf Proofs.Try.f121) 0) I117_1q O117_1q T117_1q c117_1q pair_next_L0b := by intro k rec d; kernel_rfl
theorem lk117_1q : LoopOK E117q.P 1000 0 74 (loopAt (bodyOf Proofs.Try.f121) 0) L117_1q := loop_b B117q st117_1q pair_next_L0 e117_1q (by intro o R K; rcases o with o | o <;> rfl) (loops1 lk117_0q)
def as117q : List AS := [.agg [.dat true y4q, .dat true (.sl (.int .i64)), .dat true (.int .i64), .dat true (.sl (.int .i64))], .c (.dat true y8q), .c (.int .i64)]
def rs117q : RS := .tup [(true, [.int .i64, .int .i64, .int .i64, .int .i64, .int .i64, .int .i64, .int .i64, .int .i64, .int .i64, .int .i64, .int .i64, .int .i64, .int .i64, .int .i64, .fro y4q, .fro (.sl (.int .i64)), .fro (.int .i64), .fro (.sl (.int .i64))]), (false, [.bool])]
def pk117q : Int × Int × Int × Int × Int × Int × Int × Int × Int × Int × Int × Int × Int × Int × (List K3q) × (List (List Int)) × (List Int) × (List (List Int)) × Bool → RL rs117q.cells := fun x => (x.1, x.2.1, x.2.2.1, x.2.2.2.1, x.2.2.2.2.1, x.2.2.2.2.2.1, x.2.2.2.2.2.2.1, x.2.2.2.2.2.2.2.1, x.2.2.2.2.2.2.2.2.1, x.2.2.2.2.2.2.2.2.2.1, x.2.2.2.2.2.2.2.2.2.2.1, x.2.2.2.2.2.2.2.2.2.2.2.1, x.2.2.2.2.2.2.2.2.2.2.2.2.1, x.2.2.2.2.2.2.2.2.2.2.2.2.2.1, x.2.2.2.2.2.2.2.2.2.2.2.2.2.2.1, x.2.2.2.2.2.2.2.2.2.2.2.2.2.2.2.1, x.2.2.2.2.2.2.2.2.2.2.2.2.2.2.2.2.1, x.2.2.2.2.2.2.2.2.2.2.2.2.2.2.2.2.2.1, x.2.2.2.2.2.2.2.2.2.2.2.2.2.2.2.2.2.2, ())
def up117q : RL rs117q.cells → Int × Int × Int × Int × Int × Int × Int × Int × Int × Int × Int × Int × Int × Int × (List K3q) × (List (List Int)) × (List Int) × (List (List Int)) × Bool := fun d => (d.1, d.2.1, d.2.2.1, d.2.2.2.1, d.2.2.2.2.1, d.2.2.2.2.2.1, d.2.2.2.2.2.2.1, d.2.2.2.2.2.2.2.1, d.2.2.2.2.2.2.2.2.1, d.2.2.2.2.2.2.2.2.2.1, d.2.2.2.2.2.2.2.2.2.2.1, d.2.2.2.2.2.2.2.2.2.2.2.1, d.2.2.2.2.2.2.2.2.2.2.2.2.1, d.2.2.2.2.2.2.2.2.2.2.2.2.2.1, d.2.2.2.2.2.2.2.2.2.2.2.2.2.2.1, d.2.2.2.2.2.2.2.2.2.2.2.2.2.2.2.1, d.2.2.2.2.2.2.2.2.2.2.2.2.2.2.2.2.1, d.2.2.2.2.2.2.2.2.2.2.2.2.2.2.2.2.2.1, d.2.2.2.2.2.2.2.2.2.2.2.2.2.2.2.2.2.2.1)
def s117q (k : Nat) (d : AD as117q) := pair_next k d.1 d.2.1 d.2.2.1 d.2.2.2.1 d.2.2.2.2.1 d.2.2.2.2.2.1
def R117q : Nat × Entry := (121, fun k nm args h => entry as117q rs117q (s117q k) pk117q nm args h)
theorem ev117q : EvOK E117q A117q 0 Proofs.Try.f121 as117q rs117q up117q s117q := by intro k d; kernel_rfl
theorem F117q : FnOK Proofs.Try.prog R117q := fn_b B117q ev117q (loops1 lk117_1q)

/-! ### giro/pair.Run -/
noncomputable def E118q : Env := ⟨Proofs.Try.prog, fun _ => false, sumsOf [R117q, R78q]⟩
def I118_0q : Spec := ⟨[(2, .c (.int .i64)), (6, .c (.lit (.ptr 1001000 0))), (7, .c (.dat true y8q)), (8, .c (.lit (.osl 1001001 none))), (33, .c (.lit (.osl 1001002 none))), (34, .c (.int .i64)), (35, .c (.int .i64))], [.box true [.dat true y4q, .dat true (.sl (.int .i64)), .dat true (.int .i64), .dat true (.sl (.int .i64))], .arr true y8q, .arr true y8q], [(8, none, y8q, false)]⟩
def X0_118_0q : Spec := ⟨[(2, .c (.int .i64)), (6, .c (.lit (.ptr 1001000 0))), (7, .c (.dat true y8q)), (8, .c (.lit (.osl 1001001 none)))], [.box true [.dat true y4q, .dat true (.sl (.int .i64)), .dat true (.int .i64), .dat true (.sl (.int .i64))], .arr true y8q], []⟩
def O118_0q : List (Ex × Spec) := [(.exit 2, X0_118_0q)]
def c118_0q (f : pair_Run_L1T) (d : I118_0q.den) : Option pair_Run_L1X := f d.1.1.1 d.1.2.2.1.1 d.1.2.2.2.2.2.1.1 d.1.2.2.2.2.2.2.1.1 d.2.1.1 d.2.1.2.1 d.2.1.2.2.1 d.2.1.2.2.2.1 d.2.2.1 d.2.2.2.1
def T118_0q : OutD O118_0q → pair_Run_L1X := fun d => (d.1.1.1, d.1.2.2.1.1, d.2.1.1, d.2.1.2.1, d.2.1.2.2.1, d.2.1.2.2.2.1, d.2.2.1)
def e118_0q : Elim pair_Run_L1X := fun base x _ K => K (.exit 2) (stOf base X0_118_0q (((x.1, ()), (), (x.2.1, ()), (), ()), ((x.2.2.1, x.2.2.2.1, x.2.2.2.2.1, x.2.2.2.2.2.1, ()), x.2.2.2.2.2.2, ())))
def L118_0q : LoopSum := ⟨I118_0q, O118_0q, pair_Run_L1X, fun k d => c118_0q (pair_Run_L1 k k) d, e118_0q⟩
def I118_1q : Spec := ⟨[(2, .c (.int .i64)), (6, .c (.lit (.ptr 1001000 0))), (7, .c (.dat true y8q)), (8, .c (.lit (.osl 1001001 none)))], [.box true [.dat true y4q, .dat true (.sl (.int .i64)), .dat true (.int .i64), .dat true (.sl (.int .i64))], .arr true y8q], [(8, none, y8q, false)]⟩
def X0_118_1q : Spec := ⟨[(6, .c (.lit (.ptr 1001000 0))), (7, .c (.dat true y8q)), (8, .c (.lit (.osl 1001001 none)))], [.box true [.dat true y4q, .dat true (.sl (.int .i64)), .dat true (.int .i64), .dat true (.sl (.int .i64))], .arr true y8q], []⟩
def O118_1q : List (Ex × Spec) := [(.ret, X0_118_1q)]
def c118_1q (f : pair_Run_L0T) (d : I118_1q.den) : Option pair_Run_L0X := f d.1.1.1 d.1.2.2.1.1 d.2.1.1 d.2.1.2.1 d.2.1.2.2.1 d.2.1.2.2.2.1 d.2.2.1
def T118_1q : OutD O118_1q → pair_Run_L0X := fun d => (d.1.2.1.1, d.2.1.1, d.2.1.2.1, d.2.1.2.2.1, d.2.1.2.2.2.1, d.2.2.1)
def e118_1q : Elim pair_Run_L0X := fun base x _ K => K .ret (stOf base X0_118_1q (((), (x.1, ()), (), ()), ((x.2.1, x.2.2.1, x.2.2.2.1, x.2.2.2.2.1, ()), x.2.2.2.2.2, ())))
def L118_1q : LoopSum := ⟨I118_1q, O118_1q, pair_Run_L0X, fun k d => c118_1q (pair_Run_L0 k k) d, e118_1q⟩
def A118q : Notes := ⟨[], [(7, L118_0q), (2, L118_1q)]⟩
theorem B118q : EnvB E118q := env_n mixed_orders ⟨F117q, F78q, trivial⟩
theorem st118_0q : StepOK E118q A118q 0 52 (loopAt (loopAt (bodyOf Proofs.Try.f98) 0) 0) I118_0q O118_0q T118_0q c118_0q pair_Run_L1b := by intro k rec d; kernel_rfl
theorem lk118_0q : LoopOK E118q.P 1000 0 52 (loopAt (loopAt (bodyOf Proofs.Try.f98) 0) 0) L118_0q := loop_b B118q st118_0q pair_Run_L1 e118_0q (fun _ _ _ => rfl) loops0
theorem st118_1q : StepOK E118q A118q 0 52 (loopAt (bodyOf Proofs.Try.f98) 0) I118_1q O118_1q T118_1q c118_1q pair_Run_L0b := by intro k rec d; kernel_rfl
theorem lk118_1q : LoopOK E118q.P 1000 0 52 (loopAt (bodyOf Proofs.Try.f98) 0) L118_1q := loop_b B118q st118_1q pair_Run_L0 e118_1q (fun _ _ _ => rfl) (loops1 lk118_0q)
def as118q : List AS := [.agg [.dat true y4q, .dat true (.sl (.int .i64)), .dat true (.int .i64), .dat true (.sl (.int .i64))], .c (.dat true y8q), .c (.int .i64)]
def rs118q : RS := .tup [(true, [.fro y4q, .fro (.sl (.int .i64)), .fro (.int .i64), .fro (.sl (.int .i64))]), (false, [.fro y8q]), (false, [.own y8q])]
def pk118q : (List K3q) × (List (List Int)) × (List Int) × (List (List Int)) × (List K2q) × (List K2q) → RL rs118q.cells := fun x => (x.1, x.2.1, x.2.2.1, x.2.2.2.1, x.2.2.2.2.1, x.2.2.2.2.2, ())
def up118q : RL rs118q.cells → (List K3q) × (List (List Int)) × (List Int) × (List (List Int)) × (List K2q) × (List K2q) := fun d => (d.1, d.2.1, d.2.2.1, d.2.2.2.1, d.2.2.2.2.1, d.2.2.2.2.2.1)
def s118q (k : Nat) (d : AD as118q) := pair_Run k d.1 d.2.1 d.2.2.1 d.2.2.2.1 d.2.2.2.2.1 d.2.2.2.2.2.1
def R118q : Nat × Entry := (98, fun k nm args h => entry as118q rs118q (s118q k) pk118q nm args h)
theorem ev118q : EvOK E118q A118q 0 Proofs.Try.f98 as118q rs118q up118q s118q := by intro k d; kernel_rfl
theorem F118q : FnOK Proofs.Try.prog R118q := fn_b B118q ev118q (loops1 lk118_1q)

/-! ### giro/settle.some -/
noncomputable def E119q : Env := ⟨Proofs.Try.prog, fun _ => false, sumsOf [R116q, R118q]⟩
def I119_0q : Spec := ⟨[(2, .c (.int .i64)), (6, .c (.lit (.ptr 1001000 0))), (7, .c (.dat true y8q)), (8, .c (.lit (.osl 1001001 none)))], [.box true [.dat true y4q, .dat true (.sl (.int .i64)), .dat true (.int .i64), .dat true (.sl (.int .i64))], .arr true y8q], [(8, none, y8q, false)]⟩
def X0_119_0q : Spec := ⟨[(6, .c (.lit (.ptr 1001000 0))), (7, .c (.dat true y8q)), (8, .c (.lit (.osl 1001001 none)))], [.box true [.dat true y4q, .dat true (.sl (.int .i64)), .dat true (.int .i64), .dat true (.sl (.int .i64))], .arr true y8q], []⟩
def O119_0q : List (Ex × Spec) := [(.ret, X0_119_0q)]
def c119_0q (f : settle_some_L0T) (d : I119_0q.den) : Option settle_some_L0X := f d.1.1.1 d.1.2.2.1.1 d.2.1.1 d.2.1.2.1 d.2.1.2.2.1 d.2.1.2.2.2.1 d.2.2.1
def T119_0q : OutD O119_0q → settle_some_L0X := fun d => (d.1.2.1.1, d.2.1.1, d.2.1.2.1, d.2.1.2.2.1, d.2.1.2.2.2.1, d.2.2.1)
def e119_0q : Elim settle_some_L0X := fun base x _ K => K .ret (stOf base X0_119_0q (((), (x.1, ()), (), ()), ((x.2.1, x.2.2.1, x.2.2.2.1, x.2.2.2.2.1, ()), x.2.2.2.2.2, ())))
def L119_0q : LoopSum := ⟨I119_0q, O119_0q, settle_some_L0X, fun k d => c119_0q (settle_some_L0 k k) d, e119_0q⟩
def A119q : Notes := ⟨[], [(2, L119_0q)]⟩
theorem B119q : EnvB E119q := env_n mixed_orders ⟨F116q, F118q, trivial⟩
theorem st119_0q : StepOK E119q A119q 0 40 (loopAt (bodyOf Proofs.Try.f57) 0) I119_0q O119_0q T119_0q c119_0q settle_some_L0b := by intro k rec d; kernel_rfl
theorem lk119_0q : LoopOK E119q.P 1000 0 40 (loopAt (bodyOf Proofs.Try.f57) 0) L119_0q := loop_b B119q st119_0q settle_some_L0 e119_0q (fun _ _ _ => rfl) loops0
def as119q : List AS := [.agg [.dat true y4q, .dat true (.sl (.int .i64)), .dat true (.int .i64), .dat true (.sl (.int .i64))], .c (.dat true y8q), .c (.int .i64)]
def rs119q : RS := .tup [(true, [.fro y4q, .fro (.sl (.int .i64)), .fro (.int .i64), .fro (.sl (.int .i64))]), (false, [.fro y8q]), (false, [.own y8q])]
def pk119q : (List K3q) × (List (List Int)) × (List Int) × (List (List Int)) × (List K2q) × (List K2q) → RL rs119q.cells := fun x => (x.1, x.2.1, x.2.2.1, x.2.2.2.1, x.2.2.2.2.1, x.2.2.2.2.2, ())
def up119q : RL rs119q.cells → (List K3q) × (List (List Int)) × (List Int) × (List (List Int)) × (List K2q) × (List K2q) := fun d => (d.1, d.2.1, d.2.2.1, d.2.2.2.1, d.2.2.2.2.1, d.2.2.2.2.2.1)
def s119q (k : Nat) (d : AD as119q) := settle_some k d.1 d.2.1 d.2.2.1 d.2.2.2.1 d.2.2.2.2.1 d.2.2.2.2.2.1
def R119q : Nat × Entry := (57, fun k nm args h => entry as119q rs119q (s119q k) pk119q nm args h)
theorem ev119q : EvOK E119q A119q 0 Proofs.Try.f57 as119q rs119q up119q s119q := by intro k d; kernel_rfl
theorem F119q : FnOK Proofs.Try.prog R119q := fn_b B119q ev119q (loops1 lk119_0q)

/-! ### giro/settle.Run -/
noncomputable def E120q : Env := ⟨Proofs.Try.prog, fun _ => false, sumsOf [R119q, R79q]⟩
def A120q : Notes := ⟨[], []⟩
theorem B120q : EnvB E120q := env_n mixed_orders ⟨F119q, F79q, trivial⟩
def as120q : List AS := [.agg [.dat true y4q, .dat true (.sl (.int .i64)), .dat true (.int .i64), .dat true (.sl (.int .i64))], .c (.dat true y8q), .c (.int .i64), .c (.bool)]
def rs120q : RS := .tup [(true, [.fro y4q, .fro (.sl (.int .i64)), .fro (.int .i64), .fro (.sl (.int .i64))]), (false, [.fro y8q]), (false, [.own y8q])]
def pk120q : (List K3q) × (List (List Int)) × (List Int) × (List (List Int)) × (List K2q) × (List K2q) → RL rs120q.cells := fun x => (x.1, x.2.1, x.2.2.1, x.2.2.2.1, x.2.2.2.2.1, x.2.2.2.2.2, ())
def up120q : RL rs120q.cells → (List K3q) × (List (List Int)) × (List Int) × (List (List Int)) × (List K2q) × (List K2q) := fun d => (d.1, d.2.1, d.2.2.1, d.2.2.2.1, d.2.2.2.2.1, d.2.2.2.2.2.1)
def s120q (k : Nat) (d : AD as120q) := settle_Run k d.1 d.2.1 d.2.2.1 d.2.2.2.1 d.2.2.2.2.1 d.2.2.2.2.2.1 d.2.2.2.2.2.2.1
def R120q : Nat × Entry := (24, fun k nm args h => entry as120q rs120q (s120q k) pk120q nm args h)
theorem ev120q : EvOK E120q A120q 0 Proofs.Try.f24 as120q rs120q up120q s120q := by intro k d; kernel_rfl
theorem F120q : FnOK Proofs.Try.prog R120q := fn_0 B120q ev120q

/-! ### giro/hour.out -/
noncomputable def E129q : Env := ⟨Proofs.Try.prog, fun _ => false, sumsOf []⟩
def A129q : Notes := ⟨[], []⟩
theorem B129q : EnvB E129q := env_n mixed_orders trivial
def as129q : List AS := [.c (.int .i64), .c (.int .i64), .c (.dat false (.int .i64))]
def rs129q : RS := .agg [.int .i64, .int .i64, .int .i64, .int .i64, .int .i64, .int .i64, .int .i64, .int .i64]
def pk129q : Int × Int × Int × Int × Int × Int × Int × Int → RL rs129q.cells := fun x => (x.1, x.2.1, x.2.2.1, x.2.2.2.1, x.2.2.2.2.1, x.2.2.2.2.2.1, x.2.2.2.2.2.2.1, x.2.2.2.2.2.2.2, ())
def up129q : RL rs129q.cells → Int × Int × Int × Int × Int × Int × Int × Int := fun d => (d.1, d.2.1, d.2.2.1, d.2.2.2.1, d.2.2.2.2.1, d.2.2.2.2.2.1, d.2.2.2.2.2.2.1, d.2.2.2.2.2.2.2.1)
def s129q (k : Nat) (d : AD as129q) := hour_out k d.1 d.2.1 d.2.2.1
def R129q : Nat × Entry := (64, fun k nm args h => entry as129q rs129q (s129q k) pk129q nm args h)
theorem ev129q : EvOK E129q A129q 0 Proofs.Try.f64 as129q rs129q up129q s129q := by intro k d; kernel_rfl
theorem F129q : FnOK Proofs.Try.prog R129q := fn_0 B129q ev129q

/-! ### giro/hour.Told -/
noncomputable def E130q : Env := ⟨Proofs.Try.prog, fun _ => false, sumsOf [R129q]⟩
def I130_0q : Spec := ⟨[(3, .c (.lit (.osl 1001000 none))), (5, .c (.lit (.ptr 1001001 0))), (8, .c (.dat false y8q)), (9, .c (.int .i64)), (10, .c (.int .i64)), (18, .c (.lit (.osl 1001002 none))), (19, .c (.int .i64)), (20, .c (.int .i64))], [.arr true y9q, .box true [.int .i64, .int .i64, .int .i64, .int .i64, .int .i64, .int .i64, .int .i64], .arr true (.int .i64)], [(3, none, y9q, false)]⟩
def X0_130_0q : Spec := ⟨[(3, .c (.lit (.osl 1001000 none))), (8, .c (.dat false y8q)), (9, .c (.int .i64)), (10, .c (.int .i64))], [.arr true y9q], []⟩
def O130_0q : List (Ex × Spec) := [(.exit 2, X0_130_0q)]
def c130_0q (f : hour_Told_L1T) (d : I130_0q.den) : Option hour_Told_L1X := f d.1.2.2.1.1 d.1.2.2.2.1.1 d.1.2.2.2.2.1.1 d.1.2.2.2.2.2.2.1.1 d.1.2.2.2.2.2.2.2.1.1 d.2.1 d.2.2.1.1 d.2.2.1.2.1 d.2.2.1.2.2.1 d.2.2.1.2.2.2.1 d.2.2.1.2.2.2.2.1 d.2.2.1.2.2.2.2.2.1 d.2.2.1.2.2.2.2.2.2.1 d.2.2.2.1
def T130_0q : OutD O130_0q → hour_Told_L1X := fun d => (d.1.2.1.1, d.1.2.2.1.1, d.1.2.2.2.1.1, d.2.1)
def e130_0q : Elim hour_Told_L1X := fun base x _ K => K (.exit 2) (stOf base X0_130_0q (((), (x.1, ()), (x.2.1, ()), (x.2.2.1, ()), ()), (x.2.2.2, ())))
def L130_0q : LoopSum := ⟨I130_0q, O130_0q, hour_Told_L1X, fun k d => c130_0q (hour_Told_L1 k k) d, e130_0q⟩
def I130_1q : Spec := ⟨[(3, .c (.lit (.osl 1001000 none))), (8, .c (.dat false y8q)), (9, .c (.int .i64)), (10, .c (.int .i64))], [.arr true y9q], [(3, none, y9q, false)]⟩
def X0_130_1q : Spec := ⟨[(3, .c (.lit (.osl 1001000 none)))], [.arr true y9q], []⟩
def O130_1q : List (Ex × Spec) := [(.exit 0, X0_130_1q)]
def c130_1q (f : hour_Told_L0T) (d : I130_1q.den) : Option hour_Told_L0X := f d.1.2.1.1 d.1.2.2.1.1 d.1.2.2.2.1.1 d.2.1
def T130_1q : OutD O130_1q → hour_Told_L0X := fun d => d.2.1
def e130_1q : Elim hour_Told_L0X := fun base x _ K => K (.exit 0) (stOf base X0_130_1q (((), ()), (x, ())))
def L130_1q : LoopSum := ⟨I130_1q, O130_1q, hour_Told_L0X, fun k d => c130_1q (hour_Told_L0 k k) d, e130_1q⟩
def A130q : Notes := ⟨[], [(6, L130_0q), (3, L130_1q)]⟩
theorem B130q : EnvB E130q := env_n mixed_orders ⟨F129q, trivial⟩
theorem st130_0q : StepOK E130q A130q 0 41 (loopAt (loopAt (bodyOf Proofs.Try.f31) 0) 0) I130_0q O130_0q T130_0q c130_0q hour_Told_L1b := by intro k rec d; kernel_rfl
theorem lk130_0q : LoopOK E130q.P 1000 0 41 (loopAt (loopAt (bodyOf Proofs.Try.f31) 0) 0) L130_0q := loop_b B130q st130_0q hour_Told_L1 e130_0q (fun _ _ _ => rfl) loops0
theorem st130_1q : StepOK E130q A130q 0 41 (loopAt (bodyOf Proofs.Try.f31) 0) I130_1q O130_1q T130_1q c130_1q hour_Told_L0b := by intro k rec d; kernel_rfl
theorem lk130_1q : LoopOK E130q.P 1000 0 41 (loopAt (bodyOf Proofs.Try.f31) 0) L130_1q := loop_b B130q st130_1q hour_Told_L0 e130_1q (fun _ _ _ => rfl) (loops1 lk130_0q)
def as130q : List AS := [.c (.dat false y8q)]
def rs130q : RS := .c (.own y9q)
def pk130q : List K1q → RL rs130q.cells := fun x => (x, ())
def up130q : RL rs130q.cells → List K1q := fun d => d.1
def s130q (k : Nat) (d : AD as130q) := hour_Told k d.1
def R130q : Nat × Entry := (31, fun k nm args h => entry as130q rs130q (s130q k) pk130q nm args h)
theorem ev130q : EvOK E130q A130q 0 Proofs.Try.f31 as130q rs130q up130q s130q := by intro k d; kernel_rfl
theorem F130q : FnOK Proofs.Try.prog R130q := fn_b B130q ev130q (loops1 lk130_1q)

/-! ### giro/giroref3.Of -/
noncomputable def E131q : Env := ⟨Proofs.Try.prog, fun _ => false, sumsOf []⟩
def I131_0q : Spec := ⟨[(1, .c (.dat false (.int .i64))), (4, .c (.lit (.ptr 1001000 0))), (5, .c (.lit (.ptr 1001001 0))), (6, .c (.int .i64))], [.box true [.int .i64, .int .i64, .int .i64, .int .i64, .int .i64, .int .i64, .int .i64], .box true [.int .i64, .int .i64, .int .i64, .int .i64, .int .i64, .int .i64, .int .i64]], []⟩
def X0_131_0q : Spec := ⟨[(4, .c (.lit (.ptr 1001000 0))), (5, .c (.lit (.ptr 1001001 0)))], [.box true [.int .i64, .int .i64, .int .i64, .int .i64, .int .i64, .int .i64, .int .i64], .box true [.int .i64, .int .i64, .int .i64, .int .i64, .int .i64, .int .i64, .int .i64]], []⟩
def O131_0q : List (Ex × Spec) := [(.exit 0, X0_131_0q)]
def c131_0q (f : giroref3_Of_L0T) (d : I131_0q.den) : Option giroref3_Of_L0X := f d.1.1.1 d.1.2.2.2.1.1 d.2.1.1 d.2.1.2.1 d.2.1.2.2.1 d.2.1.2.2.2.1 d.2.1.2.2.2.2.1 d.2.1.2.2.2.2.2.1 d.2.1.2.2.2.2.2.2.1 d.2.2.1.1 d.2.2.1.2.1 d.2.2.1.2.2.1 d.2.2.1.2.2.2.1 d.2.2.1.2.2.2.2.1 d.2.2.1.2.2.2.2.2.1 d.2.2.1.2.2.2.2.2.2.1
def T131_0q : OutD O131_0q → giroref3_Of_L0X := fun d => (d.2.1.1, d.2.1.2.1, d.2.1.2.2.1, d.2.1.2.2.2.1, d.2.1.2.2.2.2.1, d.2.1.2.2.2.2.2.1, d.2.1.2.2.2.2.2.2.1, d.2.2.1.1, d.2.2.1.2.1, d.2.2.1.2.2.1, d.2.2.1.2.2.2.1, d.2.2.1.2.2.2.2.1, d.2.2.1.2.2.2.2.2.1, d.2.2.1.2.2.2.2.2.2.1)
def e131_0q : Elim giroref3_Of_L0X := fun base x _ K => K (.exit 0) (stOf base X0_131_0q (((), (), ()), ((x.1, x.2.1, x.2.2.1, x.2.2.2.1, x.2.2.2.2.1, x.2.2.2.2.2.1, x.2.2.2.2.2.2.1, ()), (x.2.2.2.2.2.2.2.1, x.2.2.2.2.2.2.2.2.1, x.2.2.2.2.2.2.2.2.2.1, x.2.2.2.2.2.2.2.2.2.2.1, x.2.2.2.2.2.2.2.2.2.2.2.1, x.2.2.2.2.2.2.2.2.2.2.2.2.1, x.2.2.2.2.2.2.2.2.2.2.2.2.2, ()), ())))
def L131_0q : LoopSum := ⟨I131_0q, O131_0q, giroref3_Of_L0X, fun k d => c131_0q (giroref3_Of_L0 k k) d, e131_0q⟩
def A131q : Notes := ⟨[], [(3, L131_0q)]⟩
theorem B131q : EnvB E131q := env_n mixed_orders trivial
theorem st131_0q : StepOK E131q A131q 0 27 (loopAt (bodyOf Proofs.Try.f65) 0) I131_0q O131_0q T131_0q c131_0q giroref3_Of_L0b := by intro k rec d; kernel_rfl
theorem lk131_0q : LoopOK E131q.P 1000 0 27 (loopAt (bodyOf Proofs.Try.f65) 0) L131_0q := loop_b B131q st131_0q giroref3_Of_L0 e131_0q (fun _ _ _ => rfl) loops0
def as131q : List AS := [.c (.int .i64), .c (.dat false (.int .i64))]
def rs131q : RS := .agg [.int .i64, .int .i64, .int .i64, .int .i64, .int .i64, .int .i64, .int .i64]
def pk131q : Int × Int × Int × Int × Int × Int × Int → RL rs131q.cells := fun x => (x.1, x.2.1, x.2.2.1, x.2.2.2.1, x.2.2.2.2.1, x.2.2.2.2.2.1, x.2.2.2.2.2.2, ())
def up131q : RL rs131q.cells → Int × Int × Int × Int × Int × Int × Int := fun d => (d.1, d.2.1, d.2.2.1, d.2.2.2.1, d.2.2.2.2.1, d.2.2.2.2.2.1, d.2.2.2.2.2.2.1)
def s131q (k : Nat) (d : AD as131q) := giroref3_Of k d.1 d.2.1
def R131q : Nat × Entry := (65, fun k nm args h => entry as131q rs131q (s131q k) pk131q nm args h)
theorem ev131q : EvOK E131q A131q 0 Proofs.Try.f65 as131q rs131q up131q s131q := by intro k d; kernel_rfl
theorem F131q : FnOK Proofs.Try.prog R131q := fn_b B131q ev131q (loops1 lk131_0q)

/-! ### giro/girolaw22.rules -/
noncomputable def E134q : Env := ⟨Proofs.Try.prog, fun _ => false, sumsOf []⟩
def A134q : Notes := ⟨[], []⟩
theorem B134q : EnvB E134q := env_n mixed_orders trivial
def as134q : List AS := [.c (.int .i64)]
def rs134q : RS := .agg [.int .i64, .own y0q, .int .i64, .int .i64, .int .i64]
def pk134q : Int × (List (Int × Int)) × Int × Int × Int → RL rs134q.cells := fun x => (x.1, x.2.1, x.2.2.1, x.2.2.2.1, x.2.2.2.2, ())
def up134q : RL rs134q.cells → Int × (List (Int × Int)) × Int × Int × Int := fun d => (d.1, d.2.1, d.2.2.1, d.2.2.2.1, d.2.2.2.2.1)
def s134q (k : Nat) (d : AD as134q) := girolaw22_rules k d.1
def R134q : Nat × Entry := (34, fun k nm args h => entry as134q rs134q (s134q k) pk134q nm args h)
theorem ev134q : EvOK E134q A134q 0 Proofs.Try.f34 as134q rs134q up134q s134q := by intro k d; kernel_rfl
theorem F134q : FnOK Proofs.Try.prog R134q := fn_0 B134q ev134q

/-! ### giro/girolaw22.some -/
noncomputable def E135q : Env := ⟨Proofs.Try.prog, fun _ => false, sumsOf []⟩
def I135_0q : Spec := ⟨[(0, .c (.dat false (.int .i64))), (1, .c (.int .i64)), (4, .c (.lit (.ptr 1001000 0))), (5, .c (.lit (.ptr 1001001 0))), (6, .c (.int .i64))], [.box true [.lit .nsl, .lit .nsl, .lit .nsl, .lit .nsl], .box true [.lit (.osl 1001002 none), .lit (.osl 1001003 none), .lit (.osl 1001004 none), .lit (.osl 1001005 none)], .arr true y4q, .mat, .arr true (.int .i64), .mat], [(5, some 0, y4q, false)]⟩
def X0_135_0q : Spec := ⟨[(1, .c (.int .i64)), (4, .c (.lit (.ptr 1001000 0))), (5, .c (.lit (.ptr 1001001 0)))], [.box true [.lit .nsl, .lit .nsl, .lit .nsl, .lit .nsl], .box true [.lit (.osl 1001002 none), .lit (.osl 1001003 none), .lit (.osl 1001004 none), .lit (.osl 1001005 none)], .arr true y4q, .mat, .arr true (.int .i64), .mat], []⟩
def O135_0q : List (Ex × Spec) := [(.exit 0, X0_135_0q)]
def c135_0q (f : girolaw22_some_L0T) (d : I135_0q.den) : Option girolaw22_some_L0X := f d.1.1.1 d.1.2.1.1 d.1.2.2.2.2.1.1 d.2.2.2.1 d.2.2.2.2.1 d.2.2.2.2.2.1 d.2.2.2.2.2.2.1
def T135_0q : OutD O135_0q → girolaw22_some_L0X := fun d => (d.1.1.1, d.2.2.2.1, d.2.2.2.2.1, d.2.2.2.2.2.1, d.2.2.2.2.2.2.1)
def e135_0q : Elim girolaw22_some_L0X := fun base x _ K => K (.exit 0) (stOf base X0_135_0q (((x.1, ()), (), (), ()), ((), (), x.2.1, x.2.2.1, x.2.2.2.1, x.2.2.2.2, ())))
def L135_0q : LoopSum := ⟨I135_0q, O135_0q, girolaw22_some_L0X, fun k d => c135_0q (girolaw22_some_L0 k k) d, e135_0q⟩
def A135q : Notes := ⟨[11, 16], [(3, L135_0q)]⟩
theorem B135q : EnvB E135q := env_n mixed_orders trivial
theorem st135_0q : StepOK E135q A135q 0 91 (loopAt (bodyOf Proofs.Try.f35) 0) I135_0q O135_0q T135_0q c135_0q girolaw22_some_L0b := by intro k rec d; kernel_rfl
theorem lk135_0q : LoopOK E135q.P 1000 0 91 (loopAt (bodyOf Proofs.Try.f35) 0) L135_0q := loop_b B135q st135_0q girolaw22_some_L0 e135_0q (fun _ _ _ => rfl) loops0
def as135q : List AS := [.c (.dat false (.int .i64)), .c (.int .i64)]
def rs135q : RS := .agg [.own y4q, .mat, .own (.int .i64), .mat]
def pk135q : (List K3q) × (List (List Int)) × (List Int) × (List (List Int)) → RL rs135q.cells := fun x => (x.1, x.2.1, x.2.2.1, x.2.2.2, ())
def up135q : RL rs135q.cells → (List K3q) × (List (List Int)) × (List Int) × (List (List Int)) := fun d => (d.1, d.2.1, d.2.2.1, d.2.2.2.1)
def s135q (k : Nat) (d : AD as135q) := girolaw22_some k d.1 d.2.1
def R135q : Nat × Entry := (35, fun k nm args h => entry as135q rs135q (s135q k) pk135q nm args h)
theorem ev135q : EvOK E135q A135q 0 Proofs.Try.f35 as135q rs135q up135q s135q := by intro k d; kernel_rfl
theorem F135q : FnOK Proofs.Try.prog R135q := fn_b B135q ev135q (loops1 lk135_0q)

/-! ### giro/girolaw22.rowed -/
noncomputable def E136q : Env := ⟨Proofs.Try.prog, fun _ => false, sumsOf [R5q]⟩
def I136_0q : Spec := ⟨[(0, .c (.dat false y8q)), (3, .c (.dat true y8q)), (4, .c (.int .i64))], [], []⟩
def X0_136_0q : Spec := ⟨[(3, .c (.dat true y8q))], [], []⟩
def O136_0q : List (Ex × Spec) := [(.exit 0, X0_136_0q)]
def c136_0q (f : girolaw22_rowed_L0T) (d : I136_0q.den) : Option girolaw22_rowed_L0X := f d.1.1.1 d.1.2.1.1 d.1.2.2.1.1
def T136_0q : OutD O136_0q → girolaw22_rowed_L0X := fun d => d.1.1.1
def e136_0q : Elim girolaw22_rowed_L0X := fun base x _ K => K (.exit 0) (stOf base X0_136_0q (((x, ()), ()), ()))
def L136_0q : LoopSum := ⟨I136_0q, O136_0q, girolaw22_rowed_L0X, fun k d => c136_0q (girolaw22_rowed_L0 k k) d, e136_0q⟩
def A136q : Notes := ⟨[], [(3, L136_0q)]⟩
theorem B136q : EnvB E136q := env_n mixed_orders ⟨F5q, trivial⟩
theorem st136_0q : StepOK E136q A136q 0 74 (loopAt (bodyOf Proofs.Try.f99) 0) I136_0q O136_0q T136_0q c136_0q girolaw22_rowed_L0b := by intro k rec d; kernel_rfl
theorem lk136_0q : LoopOK E136q.P 1000 0 74 (loopAt (bodyOf Proofs.Try.f99) 0) L136_0q := loop_b B136q st136_0q girolaw22_rowed_L0 e136_0q (fun _ _ _ => rfl) loops0
def as136q : List AS := [.c (.dat false y8q)]
def rs136q : RS := .c (.fro y8q)
def pk136q : List K2q → RL rs136q.cells := fun x => (x, ())
def up136q : RL rs136q.cells → List K2q := fun d => d.1
def s136q (k : Nat) (d : AD as136q) := girolaw22_rowed k d.1
def R136q : Nat × Entry := (99, fun k nm args h => entry as136q rs136q (s136q k) pk136q nm args h)
theorem ev136q : EvOK E136q A136q 0 Proofs.Try.f99 as136q rs136q up136q s136q := by intro k d; kernel_rfl
theorem F136q : FnOK Proofs.Try.prog R136q := fn_b B136q ev136q (loops1 lk136_0q)

/-! ### giro/girolaw22.state -/
noncomputable def E137q : Env := ⟨Proofs.Try.prog, fun _ => false, sumsOf [R135q, R136q]⟩
def A137q : Notes := ⟨[], []⟩
theorem B137q : EnvB E137q := env_n mixed_orders ⟨F135q, F136q, trivial⟩
def as137q : List AS := [.c (.dat false (.int .i64)), .c (.int .i64), .c (.dat false y8q), .c (.int .i64)]
def rs137q : RS := .agg [.int .i64, .own y4q, .mat, .own (.int .i64), .mat, .own (.int .i64), .mat, .fro y8q, .own (.int .i64), .int .i64, .bool]
def pk137q : Int × (List K3q) × (List (List Int)) × (List Int) × (List (List Int)) × (List Int) × (List (List Int)) × (List K2q) × (List Int) × Int × Bool → RL rs137q.cells := fun x => (x.1, x.2.1, x.2.2.1, x.2.2.2.1, x.2.2.2.2.1, x.2.2.2.2.2.1, x.2.2.2.2.2.2.1, x.2.2.2.2.2.2.2.1, x.2.2.2.2.2.2.2.2.1, x.2.2.2.2.2.2.2.2.2.1, x.2.2.2.2.2.2.2.2.2.2, ())
def up137q : RL rs137q.cells → Int × (List K3q) × (List (List Int)) × (List Int) × (List (List Int)) × (List Int) × (List (List Int)) × (List K2q) × (List Int) × Int × Bool := fun d => (d.1, d.2.1, d.2.2.1, d.2.2.2.1, d.2.2.2.2.1, d.2.2.2.2.2.1, d.2.2.2.2.2.2.1, d.2.2.2.2.2.2.2.1, d.2.2.2.2.2.2.2.2.1, d.2.2.2.2.2.2.2.2.2.1, d.2.2.2.2.2.2.2.2.2.2.1)
def s137q (k : Nat) (d : AD as137q) := girolaw22_state k d.1 d.2.1 d.2.2.1 d.2.2.2.1
def R137q : Nat × Entry := (66, fun k nm args h => entry as137q rs137q (s137q k) pk137q nm args h)
theorem ev137q : EvOK E137q A137q 0 Proofs.Try.f66 as137q rs137q up137q s137q := by intro k d; kernel_rfl
theorem F137q : FnOK Proofs.Try.prog R137q := fn_0 B137q ev137q

/-! ### giro/day.Closes -/
noncomputable def E138q : Env := ⟨Proofs.Try.prog, fun _ => false, sumsOf []⟩
def A138q : Notes := ⟨[], []⟩
theorem B138q : EnvB E138q := env_n mixed_orders trivial
def as138q : List AS := [.agg [.int .i64, .dat false y0q, .int .i64, .int .i64, .int .i64], .c (.int .i64)]
def rs138q : RS := .c (.bool)
def pk138q : Bool → RL rs138q.cells := fun x => (x, ())
def up138q : RL rs138q.cells → Bool := fun d => d.1
def s138q (k : Nat) (d : AD as138q) := day_Closes k d.1 d.2.1 d.2.2.1 d.2.2.2.1 d.2.2.2.2.1 d.2.2.2.2.2.1
def R138q : Nat × Entry := (69, fun k nm args h => entry as138q rs138q (s138q k) pk138q nm args h)
theorem ev138q : EvOK E138q A138q 0 Proofs.Try.f69 as138q rs138q up138q s138q := by intro k d; kernel_rfl
theorem F138q : FnOK Proofs.Try.prog R138q := fn_0 B138q ev138q

/-! ### giro/hour.ends -/
noncomputable def E139q : Env := ⟨Proofs.Try.prog, fun _ => false, sumsOf [R129q]⟩
def I139_0q : Spec := ⟨[(1, .c (.lit (.ptr 1001000 0))), (2, .c (.lit (.ptr 1001001 0))), (4, .c (.lit (.osl 1001002 none))), (10, .c (.dat true y8q)), (11, .c (.int .i64)), (12, .c (.int .i64))], [.box true [.int .i64, .dat true y4q, .dat true (.sl (.int .i64)), .dat true (.int .i64), .dat true (.sl (.int .i64)), .dat true (.int .i64), .dat true (.sl (.int .i64)), .dat true y8q, .dat true (.int .i64), .int .i64, .bool], .box true [.int .i64, .lit .nsl, .lit .nsl, .lit .nsl, .lit .nsl, .lit .nsl, .lit .nsl, .lit .nsl, .lit .nsl, .int .i64, .bool], .arr true y9q], [(4, none, y9q, false)]⟩
def X0_139_0q : Spec := ⟨[(1, .c (.lit (.ptr 1001000 0))), (2, .c (.lit (.ptr 1001001 0))), (4, .c (.lit (.osl 1001002 none)))], [.box true [.int .i64, .dat true y4q, .dat true (.sl (.int .i64)), .dat true (.int .i64), .dat true (.sl (.int .i64)), .dat true (.int .i64), .dat true (.sl (.int .i64)), .dat true y8q, .dat true (.int .i64), .int .i64, .bool], .box true [.int .i64, .lit .nsl, .lit .nsl, .lit .nsl, .lit .nsl, .lit .nsl, .lit .nsl, .lit .nsl, .lit .nsl, .int .i64, .bool], .arr true y9q], []⟩
def O139_0q : List (Ex × Spec) := [(.exit 0, X0_139_0q)]
def c139_0q (f : hour_ends_L0T) (d : I139_0q.den) : Option hour_ends_L0X := f d.1.2.2.2.1.1 d.1.2.2.2.2.1.1 d.1.2.2.2.2.2.1.1 d.2.1.1 d.2.1.2.1 d.2.1.2.2.1 d.2.1.2.2.2.1 d.2.1.2.2.2.2.1 d.2.1.2.2.2.2.2.1 d.2.1.2.2.2.2.2.2.1 d.2.1.2.2.2.2.2.2.2.1 d.2.1.2.2.2.2.2.2.2.2.1 d.2.1.2.2.2.2.2.2.2.2.2.1 d.2.1.2.2.2.2.2.2.2.2.2.2.1 d.2.2.1.1 d.2.2.1.2.1 d.2.2.1.2.2.1 d.2.2.2.1
def T139_0q : OutD O139_0q → hour_ends_L0X := fun d => (d.2.1.1, d.2.1.2.1, d.2.1.2.2.1, d.2.1.2.2.2.1, d.2.1.2.2.2.2.1, d.2.1.2.2.2.2.2.1, d.2.1.2.2.2.2.2.2.1, d.2.1.2.2.2.2.2.2.2.1, d.2.1.2.2.2.2.2.2.2.2.1, d.2.1.2.2.2.2.2.2.2.2.2.1, d.2.1.2.2.2.2.2.2.2.2.2.2.1, d.2.2.1.1, d.2.2.1.2.1, d.2.2.1.2.2.1, d.2.2.2.1)
def e139_0q : Elim hour_ends_L0X := fun base x _ K => K (.exit 0) (stOf base X0_139_0q (((), (), (), ()), ((x.1, x.2.1, x.2.2.1, x.2.2.2.1, x.2.2.2.2.1, x.2.2.2.2.2.1, x.2.2.2.2.2.2.1, x.2.2.2.2.2.2.2.1, x.2.2.2.2.2.2.2.2.1, x.2.2.2.2.2.2.2.2.2.1, x.2.2.2.2.2.2.2.2.2.2.1, ()), (x.2.2.2.2.2.2.2.2.2.2.2.1, x.2.2.2.2.2.2.2.2.2.2.2.2.1, x.2.2.2.2.2.2.2.2.2.2.2.2.2.1, ()), x.2.2.2.2.2.2.2.2.2.2.2.2.2.2, ())))
def L139_0q : LoopSum := ⟨I139_0q, O139_0q, hour_ends_L0X, fun k d => c139_0q (hour_ends_L0 k k) d, e139_0q⟩
def I139_1q : Spec := ⟨[(1, .c (.lit (.ptr 1001000 0))), (2, .c (.lit (.ptr 1001001 0))), (4, .c (.lit (.osl 1001002 none))), (28, .c (.dat true y4q)), (29, .c (.int .i64)), (30, .c (.int .i64))], [.box true [.int .i64, .dat true y4q, .dat true (.sl (.int .i64)), .dat true (.int .i64), .dat true (.sl (.int .i64)), .dat true (.int .i64), .dat true (.sl (.int .i64)), .dat true y8q, .dat true (.int .i64), .int .i64, .bool], .box true [.int .i64, .lit .nsl, .lit .nsl, .lit .nsl, .lit .nsl, .lit .nsl, .lit .nsl, .lit .nsl, .lit .nsl, .int .i64, .bool], .arr true y9q], []⟩
def X0_139_1q : Spec := ⟨[(1, .c (.lit (.ptr 1001000 0))), (2, .c (.lit (.ptr 1001001 0))), (4, .c (.lit (.osl 1001002 none)))], [.box true [.int .i64, .dat true y4q, .dat true (.sl (.int .i64)), .dat true (.int .i64), .dat true (.sl (.int .i64)), .dat true (.int .i64), .dat true (.sl (.int .i64)), .dat true y8q, .dat true (.int .i64), .int .i64, .bool], .box true [.int .i64, .lit .nsl, .lit .nsl, .lit .nsl, .lit .nsl, .lit .nsl, .lit .nsl, .lit .nsl, .lit .nsl, .int .i64, .bool], .arr true y9q], []⟩
def O139_1q : List (Ex × Spec) := [(.exit 2, X0_139_1q)]
def c139_1q (f : hour_ends_L1T) (d : I139_1q.den) : Option hour_ends_L1X := f d.1.2.2.2.1.1 d.1.2.2.2.2.1.1 d.1.2.2.2.2.2.1.1 d.2.1.1 d.2.1.2.1 d.2.1.2.2.1 d.2.1.2.2.2.1 d.2.1.2.2.2.2.1 d.2.1.2.2.2.2.2.1 d.2.1.2.2.2.2.2.2.1 d.2.1.2.2.2.2.2.2.2.1 d.2.1.2.2.2.2.2.2.2.2.1 d.2.1.2.2.2.2.2.2.2.2.2.1 d.2.1.2.2.2.2.2.2.2.2.2.2.1 d.2.2.1.1 d.2.2.1.2.1 d.2.2.1.2.2.1 d.2.2.2.1
def T139_1q : OutD O139_1q → hour_ends_L1X := fun d => (d.2.1.1, d.2.1.2.1, d.2.1.2.2.1, d.2.1.2.2.2.1, d.2.1.2.2.2.2.1, d.2.1.2.2.2.2.2.1, d.2.1.2.2.2.2.2.2.1, d.2.1.2.2.2.2.2.2.2.1, d.2.1.2.2.2.2.2.2.2.2.1, d.2.1.2.2.2.2.2.2.2.2.2.1, d.2.1.2.2.2.2.2.2.2.2.2.2.1, d.2.2.1.1, d.2.2.1.2.1, d.2.2.1.2.2.1, d.2.2.2.1)
def e139_1q : Elim hour_ends_L1X := fun base x _ K => K (.exit 2) (stOf base X0_139_1q (((), (), (), ()), ((x.1, x.2.1, x.2.2.1, x.2.2.2.1, x.2.2.2.2.1, x.2.2.2.2.2.1, x.2.2.2.2.2.2.1, x.2.2.2.2.2.2.2.1, x.2.2.2.2.2.2.2.2.1, x.2.2.2.2.2.2.2.2.2.1, x.2.2.2.2.2.2.2.2.2.2.1, ()), (x.2.2.2.2.2.2.2.2.2.2.2.1, x.2.2.2.2.2.2.2.2.2.2.2.2.1, x.2.2.2.2.2.2.2.2.2.2.2.2.2.1, ()), x.2.2.2.2.2.2.2.2.2.2.2.2.2.2, ())))
def L139_1q : LoopSum := ⟨I139_1q, O139_1q, hour_ends_L1X, fun k d => c139_1q (hour_ends_L1 k k) d, e139_1q⟩
def A139q : Notes := ⟨[], [(3, L139_0q), (8, L139_1q)]⟩
theorem B139q : EnvB E139q := env_n mixed_orders ⟨F129q, trivial⟩
theorem st139_0q : StepOK E139q A139q 0 48 (loopAt (bodyOf Proofs.Try.f70) 0) I139_0q O139_0q T139_0q c139_0q hour_ends_L0b := by intro k rec d; kernel_rfl
theorem lk139_0q : LoopOK E139q.P 1000 0 48 (loopAt (bodyOf Proofs.Try.f70) 0) L139_0q := loop_b B139q st139_0q hour_ends_L0 e139_0q (fun _ _ _ => rfl) loops0
theorem st139_1q : StepOK E139q A139q 0 48 (loopAt (bodyOf Proofs.Try.f70) 1) I139_1q O139_1q T139_1q c139_1q hour_ends_L1b := by intro k rec d; kernel_rfl
theorem lk139_1q : LoopOK E139q.P 1000 0 48 (loopAt (bodyOf Proofs.Try.f70) 1) L139_1q := loop_b B139q st139_1q hour_ends_L1 e139_1q (fun _ _ _ => rfl) loops0
def as139q : List AS := [.agg [.int .i64, .dat true y4q, .dat true (.sl (.int .i64)), .dat true (.int .i64), .dat true (.sl (.int .i64)), .dat true (.int .i64), .dat true (.sl (.int .i64)), .dat true y8q, .dat true (.int .i64), .int .i64, .bool]]
def rs139q : RS := .tup [(true, [.int .i64, .fro y4q, .fro (.sl (.int .i64)), .fro (.int .i64), .fro (.sl (.int .i64)), .fro (.int .i64), .fro (.sl (.int .i64)), .own y8q, .fro (.int .i64), .int .i64, .bool]), (false, [.own y9q])]
def pk139q : Int × (List K3q) × (List (List Int)) × (List Int) × (List (List Int)) × (List Int) × (List (List Int)) × (List K2q) × (List Int) × Int × Bool × (List K1q) → RL rs139q.cells := fun x => (x.1, x.2.1, x.2.2.1, x.2.2.2.1, x.2.2.2.2.1, x.2.2.2.2.2.1, x.2.2.2.2.2.2.1, x.2.2.2.2.2.2.2.1, x.2.2.2.2.2.2.2.2.1, x.2.2.2.2.2.2.2.2.2.1, x.2.2.2.2.2.2.2.2.2.2.1, x.2.2.2.2.2.2.2.2.2.2.2, ())
def up139q : RL rs139q.cells → Int × (List K3q) × (List (List Int)) × (List Int) × (List (List Int)) × (List Int) × (List (List Int)) × (List K2q) × (List Int) × Int × Bool × (List K1q) := fun d => (d.1, d.2.1, d.2.2.1, d.2.2.2.1, d.2.2.2.2.1, d.2.2.2.2.2.1, d.2.2.2.2.2.2.1, d.2.2.2.2.2.2.2.1, d.2.2.2.2.2.2.2.2.1, d.2.2.2.2.2.2.2.2.2.1, d.2.2.2.2.2.2.2.2.2.2.1, d.2.2.2.2.2.2.2.2.2.2.2.1)
def s139q (k : Nat) (d : AD as139q) := hour_ends k d.1 d.2.1 d.2.2.1 d.2.2.2.1 d.2.2.2.2.1 d.2.2.2.2.2.1 d.2.2.2.2.2.2.1 d.2.2.2.2.2.2.2.1 d.2.2.2.2.2.2.2.2.1 d.2.2.2.2.2.2.2.2.2.1 d.2.2.2.2.2.2.2.2.2.2.1
def R139q : Nat × Entry := (70, fun k nm args h => entry as139q rs139q (s139q k) pk139q nm args h)
theorem ev139q : EvOK E139q A139q 0 Proofs.Try.f70 as139q rs139q up139q s139q := by intro k d; kernel_rfl
theorem F139q : FnOK Proofs.Try.prog R139q := fn_b B139q ev139q (loopsOK_of (n := 2) (by kernel_rfl) fun i hi => match i, hi with | 0, _ => ⟨L139_0q, by kernel_rfl, lk139_0q⟩ | 1, _ => ⟨L139_1q, by kernel_rfl, lk139_1q⟩ | i + 2, hi => absurd hi (by omega))

/-! ### giro/pay.Late -/
noncomputable def E140q : Env := ⟨Proofs.Try.prog, fun _ => false, sumsOf []⟩
def A140q : Notes := ⟨[], []⟩
theorem B140q : EnvB E140q := env_n mixed_orders trivial
def as140q : List AS := [.agg [.int .i64, .int .i64, .int .i64, .int .i64, .int .i64, .int .i64, .int .i64], .c (.int .i64)]
def rs140q : RS := .c (.bool)
def pk140q : Bool → RL rs140q.cells := fun x => (x, ())
def up140q : RL rs140q.cells → Bool := fun d => d.1
def s140q (k : Nat) (d : AD as140q) := pay_Late k d.1 d.2.1 d.2.2.1 d.2.2.2.1 d.2.2.2.2.1 d.2.2.2.2.2.1 d.2.2.2.2.2.2.1 d.2.2.2.2.2.2.2.1
def R140q : Nat × Entry := (71, fun k nm args h => entry as140q rs140q (s140q k) pk140q nm args h)
theorem ev140q : EvOK E140q A140q 0 Proofs.Try.f71 as140q rs140q up140q s140q := by intro k d; kernel_rfl
theorem F140q : FnOK Proofs.Try.prog R140q := fn_0 B140q ev140q

/-! ### giro/day.Solves -/
noncomputable def E141q : Env := ⟨Proofs.Try.prog, fun _ => false, sumsOf []⟩
def A141q : Notes := ⟨[], []⟩
theorem B141q : EnvB E141q := env_n mixed_orders trivial
def as141q : List AS := [.agg [.int .i64, .dat false y0q, .int .i64, .int .i64, .int .i64], .c (.int .i64)]
def rs141q : RS := .c (.bool)
def pk141q : Bool → RL rs141q.cells := fun x => (x, ())
def up141q : RL rs141q.cells → Bool := fun d => d.1
def s141q (k : Nat) (d : AD as141q) := day_Solves k d.1 d.2.1 d.2.2.1 d.2.2.2.1 d.2.2.2.2.1 d.2.2.2.2.2.1
def R141q : Nat × Entry := (73, fun k nm args h => entry as141q rs141q (s141q k) pk141q nm args h)
theorem ev141q : EvOK E141q A141q 0 Proofs.Try.f73 as141q rs141q up141q s141q := by intro k d; kernel_rfl
theorem F141q : FnOK Proofs.Try.prog R141q := fn_0 B141q ev141q

/-! ### giro/hour.Settle -/
noncomputable def E142q : Env := ⟨Proofs.Try.prog, fun _ => false, sumsOf [R120q, R130q]⟩
def A142q : Notes := ⟨[], []⟩
theorem B142q : EnvB E142q := env_n mixed_orders ⟨F120q, F130q, trivial⟩
def as142q : List AS := [.agg [.int .i64, .dat true y4q, .dat true (.sl (.int .i64)), .dat true (.int .i64), .dat true (.sl (.int .i64)), .dat true (.int .i64), .dat true (.sl (.int .i64)), .dat true y8q, .dat true (.int .i64), .int .i64, .bool], .c (.bool)]
def rs142q : RS := .tup [(true, [.int .i64, .fro y4q, .fro (.sl (.int .i64)), .fro (.int .i64), .fro (.sl (.int .i64)), .fro (.int .i64), .fro (.sl (.int .i64)), .fro y8q, .fro (.int .i64), .int .i64, .bool]), (false, [.own y9q])]
def pk142q : Int × (List K3q) × (List (List Int)) × (List Int) × (List (List Int)) × (List Int) × (List (List Int)) × (List K2q) × (List Int) × Int × Bool × (List K1q) → RL rs142q.cells := fun x => (x.1, x.2.1, x.2.2.1, x.2.2.2.1, x.2.2.2.2.1, x.2.2.2.2.2.1, x.2.2.2.2.2.2.1, x.2.2.2.2.2.2.2.1, x.2.2.2.2.2.2.2.2.1, x.2.2.2.2.2.2.2.2.2.1, x.2.2.2.2.2.2.2.2.2.2.1, x.2.2.2.2.2.2.2.2.2.2.2, ())
def up142q : RL rs142q.cells → Int × (List K3q) × (List (List Int)) × (List Int) × (List (List Int)) × (List Int) × (List (List Int)) × (List K2q) × (List Int) × Int × Bool × (List K1q) := fun d => (d.1, d.2.1, d.2.2.1, d.2.2.2.1, d.2.2.2.2.1, d.2.2.2.2.2.1, d.2.2.2.2.2.2.1, d.2.2.2.2.2.2.2.1, d.2.2.2.2.2.2.2.2.1, d.2.2.2.2.2.2.2.2.2.1, d.2.2.2.2.2.2.2.2.2.2.1, d.2.2.2.2.2.2.2.2.2.2.2.1)
def s142q (k : Nat) (d : AD as142q) := hour_Settle k d.1 d.2.1 d.2.2.1 d.2.2.2.1 d.2.2.2.2.1 d.2.2.2.2.2.1 d.2.2.2.2.2.2.1 d.2.2.2.2.2.2.2.1 d.2.2.2.2.2.2.2.2.1 d.2.2.2.2.2.2.2.2.2.1 d.2.2.2.2.2.2.2.2.2.2.1 d.2.2.2.2.2.2.2.2.2.2.2.1
def R142q : Nat × Entry := (72, fun k nm args h => entry as142q rs142q (s142q k) pk142q nm args h)
theorem ev142q : EvOK E142q A142q 0 Proofs.Try.f72 as142q rs142q up142q s142q := by intro k d; kernel_rfl
theorem F142q : FnOK Proofs.Try.prog R142q := fn_0 B142q ev142q

/-! ### giro/hour.Tick -/
noncomputable def E143q : Env := ⟨Proofs.Try.prog, fun _ => false, sumsOf [R138q, R139q, R140q, R129q, R141q, R142q]⟩
def I143_0q : Spec := ⟨[(2, .c (.lit (.ptr 1001000 0))), (3, .c (.lit (.ptr 1001001 0))), (4, .c (.lit (.ptr 1001002 0))), (6, .c (.lit (.osl 1001003 none))), (7, .c (.lit (.osl 1001004 none))), (27, .c (.dat true y8q)), (28, .c (.int .i64)), (29, .c (.int .i64))], [.box true [.int .i64, .dat false y0q, .int .i64, .int .i64, .int .i64], .box true [.int .i64, .dat true y4q, .dat true (.sl (.int .i64)), .dat true (.int .i64), .dat true (.sl (.int .i64)), .dat true (.int .i64), .dat true (.sl (.int .i64)), .dat true y8q, .dat true (.int .i64), .int .i64, .bool], .box true [.int .i64, .lit .nsl, .lit .nsl, .lit .nsl, .lit .nsl, .lit .nsl, .lit .nsl, .lit .nsl, .lit .nsl, .int .i64, .bool], .arr true y9q, .arr true y8q], [(6, none, y9q, false), (7, none, y8q, false)]⟩
def X0_143_0q : Spec := ⟨[(2, .c (.lit (.ptr 1001000 0))), (3, .c (.lit (.ptr 1001001 0))), (4, .c (.lit (.ptr 1001002 0))), (6, .c (.lit (.osl 1001003 none))), (7, .c (.lit (.osl 1001004 none)))], [.box true [.int .i64, .dat false y0q, .int .i64, .int .i64, .int .i64], .box true [.int .i64, .dat true y4q, .dat true (.sl (.int .i64)), .dat true (.int .i64), .dat true (.sl (.int .i64)), .dat true (.int .i64), .dat true (.sl (.int .i64)), .dat true y8q, .dat true (.int .i64), .int .i64, .bool], .box true [.int .i64, .lit .nsl, .lit .nsl, .lit .nsl, .lit .nsl, .lit .nsl, .lit .nsl, .lit .nsl, .lit .nsl, .int .i64, .bool], .arr true y9q, .arr true y8q], []⟩
def O143_0q : List (Ex × Spec) := [(.exit 0, X0_143_0q)]
def c143_0q (f : hour_Tick_L0T) (d : I143_0q.den) : Option hour_Tick_L0X := f d.1.2.2.2.2.2.1.1 d.1.2.2.2.2.2.2.1.1 d.1.2.2.2.2.2.2.2.1.1 d.2.1.1 d.2.1.2.1 d.2.1.2.2.1 d.2.1.2.2.2.1 d.2.1.2.2.2.2.1 d.2.2.1.1 d.2.2.1.2.1 d.2.2.1.2.2.1 d.2.2.1.2.2.2.1 d.2.2.1.2.2.2.2.1 d.2.2.1.2.2.2.2.2.1 d.2.2.1.2.2.2.2.2.2.1 d.2.2.1.2.2.2.2.2.2.2.1 d.2.2.1.2.2.2.2.2.2.2.2.1 d.2.2.1.2.2.2.2.2.2.2.2.2.1 d.2.2.1.2.2.2.2.2.2.2.2.2.2.1 d.2.2.2.1.1 d.2.2.2.1.2.1 d.2.2.2.1.2.2.1 d.2.2.2.2.1 d.2.2.2.2.2.1
def T143_0q : OutD O143_0q → hour_Tick_L0X := fun d => (d.2.1.1, d.2.1.2.1, d.2.1.2.2.1, d.2.1.2.2.2.1, d.2.1.2.2.2.2.1, d.2.2.1.1, d.2.2.1.2.1, d.2.2.1.2.2.1, d.2.2.1.2.2.2.1, d.2.2.1.2.2.2.2.1, d.2.2.1.2.2.2.2.2.1, d.2.2.1.2.2.2.2.2.2.1, d.2.2.1.2.2.2.2.2.2.2.1, d.2.2.1.2.2.2.2.2.2.2.2.1, d.2.2.1.2.2.2.2.2.2.2.2.2.1, d.2.2.1.2.2.2.2.2.2.2.2.2.2.1, d.2.2.2.1.1, d.2.2.2.1.2.1, d.2.2.2.1.2.2.1, d.2.2.2.2.1, d.2.2.2.2.2.1)
def e143_0q : Elim hour_Tick_L0X := fun base x _ K => K (.exit 0) (stOf base X0_143_0q (((), (), (), (), (), ()), ((x.1, x.2.1, x.2.2.1, x.2.2.2.1, x.2.2.2.2.1, ()), (x.2.2.2.2.2.1, x.2.2.2.2.2.2.1, x.2.2.2.2.2.2.2.1, x.2.2.2.2.2.2.2.2.1, x.2.2.2.2.2.2.2.2.2.1, x.2.2.2.2.2.2.2.2.2.2.1, x.2.2.2.2.2.2.2.2.2.2.2.1, x.2.2.2.2.2.2.2.2.2.2.2.2.1, x.2.2.2.2.2.2.2.2.2.2.2.2.2.1, x.2.2.2.2.2.2.2.2.2.2.2.2.2.2.1, x.2.2.2.2.2.2.2.2.2.2.2.2.2.2.2.1, ()), (x.2.2.2.2.2.2.2.2.2.2.2.2.2.2.2.2.1, x.2.2.2.2.2.2.2.2.2.2.2.2.2.2.2.2.2.1, x.2.2.2.2.2.2.2.2.2.2.2.2.2.2.2.2.2.2.1, ()), x.2.2.2.2.2.2.2.2.2.2.2.2.2.2.2.2.2.2.2.1, x.2.2.2.2.2.2.2.2.2.2.2.2.2.2.2.2.2.2.2.2, ())))
def L143_0q : LoopSum := ⟨I143_0q, O143_0q, hour_Tick_L0X, fun k d => c143_0q (hour_Tick_L0 k k) d, e143_0q⟩
def A143q : Notes := ⟨[], [(9, L143_0q)]⟩
theorem B143q : EnvB E143q := env_n mixed_orders ⟨F138q, F139q, F140q, F129q, F141q, F142q, trivial⟩
theorem st143_0q : StepOK E143q A143q 0 66 (loopAt (bodyOf Proofs.Try.f37) 0) I143_0q O143_0q T143_0q c143_0q hour_Tick_L0b := by intro k rec d; kernel_rfl
theorem lk143_0q : LoopOK E143q.P 1000 0 66 (loopAt (bodyOf Proofs.Try.f37) 0) L143_0q := loop_b B143q st143_0q hour_Tick_L0 e143_0q (fun _ _ _ => rfl) loops0
def as143q : List AS := [.agg [.int .i64, .dat false y0q, .int .i64, .int .i64, .int .i64], .agg [.int .i64, .dat true y4q, .dat true (.sl (.int .i64)), .dat true (.int .i64), .dat true (.sl (.int .i64)), .dat true (.int .i64), .dat true (.sl (.int .i64)), .dat true y8q, .dat true (.int .i64), .int .i64, .bool]]
def rs143q : RS := .tup [(true, [.int .i64, .fro y4q, .fro (.sl (.int .i64)), .fro (.int .i64), .fro (.sl (.int .i64)), .fro (.int .i64), .fro (.sl (.int .i64)), .fro y8q, .fro (.int .i64), .int .i64, .bool]), (false, [.own y9q])]
def pk143q : Int × (List K3q) × (List (List Int)) × (List Int) × (List (List Int)) × (List Int) × (List (List Int)) × (List K2q) × (List Int) × Int × Bool × (List K1q) → RL rs143q.cells := fun x => (x.1, x.2.1, x.2.2.1, x.2.2.2.1, x.2.2.2.2.1, x.2.2.2.2.2.1, x.2.2.2.2.2.2.1, x.2.2.2.2.2.2.2.1, x.2.2.2.2.2.2.2.2.1, x.2.2.2.2.2.2.2.2.2.1, x.2.2.2.2.2.2.2.2.2.2.1, x.2.2.2.2.2.2.2.2.2.2.2, ())
def up143q : RL rs143q.cells → Int × (List K3q) × (List (List Int)) × (List Int) × (List (List Int)) × (List Int) × (List (List Int)) × (List K2q) × (List Int) × Int × Bool × (List K1q) := fun d => (d.1, d.2.1, d.2.2.1, d.2.2.2.1, d.2.2.2.2.1, d.2.2.2.2.2.1, d.2.2.2.2.2.2.1, d.2.2.2.2.2.2.2.1, d.2.2.2.2.2.2.2.2.1, d.2.2.2.2.2.2.2.2.2.1, d.2.2.2.2.2.2.2.2.2.2.1, d.2.2.2.2.2.2.2.2.2.2.2.1)
def s143q (k : Nat) (d : AD as143q) := hour_Tick k d.1 d.2.1 d.2.2.1 d.2.2.2.1 d.2.2.2.2.1 d.2.2.2.2.2.1 d.2.2.2.2.2.2.1 d.2.2.2.2.2.2.2.1 d.2.2.2.2.2.2.2.2.1 d.2.2.2.2.2.2.2.2.2.1 d.2.2.2.2.2.2.2.2.2.2.1 d.2.2.2.2.2.2.2.2.2.2.2.1 d.2.2.2.2.2.2.2.2.2.2.2.2.1 d.2.2.2.2.2.2.2.2.2.2.2.2.2.1 d.2.2.2.2.2.2.2.2.2.2.2.2.2.2.1 d.2.2.2.2.2.2.2.2.2.2.2.2.2.2.2.1
def R143q : Nat × Entry := (37, fun k nm args h => entry as143q rs143q (s143q k) pk143q nm args h)
theorem ev143q : EvOK E143q A143q 0 Proofs.Try.f37 as143q rs143q up143q s143q := by intro k d; kernel_rfl
theorem F143q : FnOK Proofs.Try.prog R143q := fn_b B143q ev143q (loops1 lk143_0q)

/-! ### giro/girolaw22.known -/
noncomputable def E144q : Env := ⟨Proofs.Try.prog, fun t => [100].any (Nat.beq t), sumsOf [R134q, R137q, R143q, R131q]⟩
def A144q : Notes := ⟨[], []⟩
theorem B144q : EnvB E144q := env_b (eqOK_flat (fun t h => eqT_mem (p := fun t => Proofs.Try.prog.keyTypeAt 8 t && !Proofs.Try.prog.eqGuardType Proofs.Try.prog.depth t) (l := [100]) (List.forall_mem_cons.2 ⟨by kernel_rfl, List.forall_mem_nil _⟩) t h)) mixed_orders ⟨F134q, F137q, F143q, F131q, trivial⟩
def as144q : List AS := []
def rs144q : RS := .c (.bool)
def pk144q : Bool → RL rs144q.cells := fun x => (x, ())
def up144q : RL rs144q.cells → Bool := fun d => d.1
def s144q (k : Nat) (d : AD as144q) := girolaw22_known k
def R144q : Nat × Entry := (33, fun k nm args h => entry as144q rs144q (s144q k) pk144q nm args h)
theorem ev144q : EvOK E144q A144q 0 Proofs.Try.f33 as144q rs144q up144q s144q := by intro k d; kernel_rfl
theorem F144q : FnOK Proofs.Try.prog R144q := fn_0 B144q ev144q

/-! ### giro/girolaw22.HourSolves -/
noncomputable def E_girolaw22_HourSolves : Env := ⟨Proofs.Try.prog, fun _ => false, sumsOf [R134q, R135q, R5q, R143q, R144q]⟩
def I_girolaw22_HourSolves_L0 : Spec := ⟨[(0, .c (.int .i64)), (1, .c (.int .i64)), (2, .c (.int .i64)), (7, .c (.lit (.ptr 1001000 0))), (8, .c (.lit (.ptr 1001002 0))), (9, .c (.int .i64))], [.box true [.int .i64, .lit (.osl 1001001 none), .int .i64, .int .i64, .int .i64], .arr true y0q, .box true [.int .i64, .lit (.osl 1001003 none), .lit (.osl 1001004 none), .lit (.osl 1001005 none), .lit (.osl 1001006 none), .lit .nsl, .lit .nsl, .dat true y8q, .lit .nsl, .int .i64, .bool], .arr true y4q, .mat, .arr true (.int .i64), .mat], []⟩
def X0_girolaw22_HourSolves_L0 : Spec := ⟨[(0, .c (.int .i64)), (2, .c (.int .i64)), (7, .c (.lit (.ptr 1001000 0))), (8, .c (.lit (.ptr 1001002 0)))], [.box true [.int .i64, .lit (.osl 1001001 none), .int .i64, .int .i64, .int .i64], .arr true y0q, .box true [.int .i64, .lit (.osl 1001003 none), .lit (.osl 1001004 none), .lit (.osl 1001005 none), .lit (.osl 1001006 none), .lit .nsl, .lit .nsl, .dat true y8q, .lit .nsl, .int .i64, .bool], .arr true y4q, .mat, .arr true (.int .i64), .mat], []⟩
def O_girolaw22_HourSolves_L0 : List (Ex × Spec) := [(.exit 0, X0_girolaw22_HourSolves_L0)]
def c_girolaw22_HourSolves_L0 (f : girolaw22_HourSolves_L0T) (d : I_girolaw22_HourSolves_L0.den) : Option girolaw22_HourSolves_L0X := f d.1.1.1 d.1.2.1.1 d.1.2.2.1.1 d.1.2.2.2.2.2.1.1 d.2.1.1 d.2.1.2.1 d.2.1.2.2.1 d.2.1.2.2.2.1 d.2.2.1 d.2.2.2.1.1 d.2.2.2.1.2.1 d.2.2.2.1.2.2.1 d.2.2.2.1.2.2.2.1 d.2.2.2.2.1 d.2.2.2.2.2.1 d.2.2.2.2.2.2.1 d.2.2.2.2.2.2.2.1
def T_girolaw22_HourSolves_L0 : OutD O_girolaw22_HourSolves_L0 → girolaw22_HourSolves_L0X := fun d => (d.1.1.1, d.1.2.1.1, d.2.1.1, d.2.1.2.1, d.2.1.2.2.1, d.2.1.2.2.2.1, d.2.2.1, d.2.2.2.1.1, d.2.2.2.1.2.1, d.2.2.2.1.2.2.1, d.2.2.2.1.2.2.2.1, d.2.2.2.2.1, d.2.2.2.2.2.1, d.2.2.2.2.2.2.1, d.2.2.2.2.2.2.2.1)
def e_girolaw22_HourSolves_L0 : Elim girolaw22_HourSolves_L0X := fun base x _ K => K (.exit 0) (stOf base X0_girolaw22_HourSolves_L0 (((x.1, ()), (x.2.1, ()), (), (), ()), ((x.2.2.1, x.2.2.2.1, x.2.2.2.2.1, x.2.2.2.2.2.1, ()), x.2.2.2.2.2.2.1, (x.2.2.2.2.2.2.2.1, x.2.2.2.2.2.2.2.2.1, x.2.2.2.2.2.2.2.2.2.1, x.2.2.2.2.2.2.2.2.2.2.1, ()), x.2.2.2.2.2.2.2.2.2.2.2.1, x.2.2.2.2.2.2.2.2.2.2.2.2.1, x.2.2.2.2.2.2.2.2.2.2.2.2.2.1, x.2.2.2.2.2.2.2.2.2.2.2.2.2.2, ())))
def L_girolaw22_HourSolves_L0 : LoopSum := ⟨I_girolaw22_HourSolves_L0, O_girolaw22_HourSolves_L0, girolaw22_HourSolves_L0X, fun k d => c_girolaw22_HourSolves_L0 (girolaw22_HourSolves_L0 k k) d, e_girolaw22_HourSolves_L0⟩
def I_girolaw22_HourSolves_L1 : Spec := ⟨[(0, .c (.int .i64)), (2, .c (.int .i64)), (7, .c (.lit (.ptr 1001000 0))), (8, .c (.lit (.ptr 1001002 0))), (10, .c (.int .i64))], [.box true [.int .i64, .lit (.osl 1001001 none), .int .i64, .int .i64, .int .i64], .arr true y0q, .box true [.int .i64, .dat true y4q, .dat true (.sl (.int .i64)), .dat true (.int .i64), .dat true (.sl (.int .i64)), .dat true (.int .i64), .dat true (.sl (.int .i64)), .dat true y8q, .dat true (.int .i64), .int .i64, .bool]], [(8, some 1, .bool, true), (8, some 2, .bool, true), (8, some 3, .bool, true), (8, some 4, .bool, true)]⟩
def X0_girolaw22_HourSolves_L1 : Spec := ⟨[(0, .c (.int .i64)), (2, .c (.int .i64)), (8, .c (.lit (.ptr 1001000 0)))], [.box true [.int .i64, .dat true y4q, .dat true (.sl (.int .i64)), .dat true (.int .i64), .dat true (.sl (.int .i64)), .dat true (.int .i64), .dat true (.sl (.int .i64)), .dat true y8q, .dat true (.int .i64), .int .i64, .bool]], []⟩
def O_girolaw22_HourSolves_L1 : List (Ex × Spec) := [(.exit 2, X0_girolaw22_HourSolves_L1)]
def c_girolaw22_HourSolves_L1 (f : girolaw22_HourSolves_L1T) (d : I_girolaw22_HourSolves_L1.den) : Option girolaw22_HourSolves_L1X := f d.1.1.1 d.1.2.1.1 d.1.2.2.2.2.1.1 d.2.1.1 d.2.1.2.1 d.2.1.2.2.1 d.2.1.2.2.2.1 d.2.2.1 d.2.2.2.1.1 d.2.2.2.1.2.1 d.2.2.2.1.2.2.1 d.2.2.2.1.2.2.2.1 d.2.2.2.1.2.2.2.2.1 d.2.2.2.1.2.2.2.2.2.1 d.2.2.2.1.2.2.2.2.2.2.1 d.2.2.2.1.2.2.2.2.2.2.2.1 d.2.2.2.1.2.2.2.2.2.2.2.2.1 d.2.2.2.1.2.2.2.2.2.2.2.2.2.1 d.2.2.2.1.2.2.2.2.2.2.2.2.2.2.1
def T_girolaw22_HourSolves_L1 : OutD O_girolaw22_HourSolves_L1 → girolaw22_HourSolves_L1X := fun d => (d.1.1.1, d.1.2.1.1, d.2.1.1, d.2.1.2.1, d.2.1.2.2.1, d.2.1.2.2.2.1, d.2.1.2.2.2.2.1, d.2.1.2.2.2.2.2.1, d.2.1.2.2.2.2.2.2.1, d.2.1.2.2.2.2.2.2.2.1, d.2.1.2.2.2.2.2.2.2.2.1, d.2.1.2.2.2.2.2.2.2.2.2.1, d.2.1.2.2.2.2.2.2.2.2.2.2.1)
def e_girolaw22_HourSolves_L1 : Elim girolaw22_HourSolves_L1X := fun base x _ K => K (.exit 2) (stOf base X0_girolaw22_HourSolves_L1 (((x.1, ()), (x.2.1, ()), (), ()), ((x.2.2.1, x.2.2.2.1, x.2.2.2.2.1, x.2.2.2.2.2.1, x.2.2.2.2.2.2.1, x.2.2.2.2.2.2.2.1, x.2.2.2.2.2.2.2.2.1, x.2.2.2.2.2.2.2.2.2.1, x.2.2.2.2.2.2.2.2.2.2.1, x.2.2.2.2.2.2.2.2.2.2.2.1, x.2.2.2.2.2.2.2.2.2.2.2.2, ()), ())))
def L_girolaw22_HourSolves_L1 : LoopSum := ⟨I_girolaw22_HourSolves_L1, O_girolaw22_HourSolves_L1, girolaw22_HourSolves_L1X, fun k d => c_girolaw22_HourSolves_L1 (girolaw22_HourSolves_L1 k k) d, e_girolaw22_HourSolves_L1⟩
def A_girolaw22_HourSolves : Notes := ⟨[], [(7, L_girolaw22_HourSolves_L0), (11, L_girolaw22_HourSolves_L1)]⟩
theorem B_girolaw22_HourSolves : EnvB E_girolaw22_HourSolves := env_n mixed_orders ⟨F134q, F135q, F5q, F143q, F144q, trivial⟩
theorem girolaw22_HourSolves_L0_step : StepOK E_girolaw22_HourSolves A_girolaw22_HourSolves 0 79 (loopAt (bodyOf Proofs.Try.f8) 0) I_girolaw22_HourSolves_L0 O_girolaw22_HourSolves_L0 T_girolaw22_HourSolves_L0 c_girolaw22_HourSolves_L0 girolaw22_HourSolves_L0b := by intro k rec d; kernel_rfl
theorem girolaw22_HourSolves_L0_ok : LoopOK E_girolaw22_HourSolves.P 1000 0 79 (loopAt (bodyOf Proofs.Try.f8) 0) L_girolaw22_HourSolves_L0 := loop_b B_girolaw22_HourSolves girolaw22_HourSolves_L0_step girolaw22_HourSolves_L0 e_girolaw22_HourSolves_L0 (fun _ _ _ => rfl) loops0
theorem girolaw22_HourSolves_L1_step : StepOK E_girolaw22_HourSolves A_girolaw22_HourSolves 0 79 (loopAt (bodyOf Proofs.Try.f8) 1) I_girolaw22_HourSolves_L1 O_girolaw22_HourSolves_L1 T_girolaw22_HourSolves_L1 c_girolaw22_HourSolves_L1 girolaw22_HourSolves_L1b := by intro k rec d; kernel_rfl
theorem girolaw22_HourSolves_L1_ok : LoopOK E_girolaw22_HourSolves.P 1000 0 79 (loopAt (bodyOf Proofs.Try.f8) 1) L_girolaw22_HourSolves_L1 := loop_b B_girolaw22_HourSolves girolaw22_HourSolves_L1_step girolaw22_HourSolves_L1 e_girolaw22_HourSolves_L1 (fun _ _ _ => rfl) loops0
def as_girolaw22_HourSolves : List AS := [.c (.int .i64), .c (.int .i64), .c (.int .i64)]
def rs_girolaw22_HourSolves : RS := .c (.bool)
def pk_girolaw22_HourSolves : Bool → RL rs_girolaw22_HourSolves.cells := fun x => (x, ())
def up_girolaw22_HourSolves : RL rs_girolaw22_HourSolves.cells → Bool := fun d => d.1
def s_girolaw22_HourSolves (k : Nat) (d : AD as_girolaw22_HourSolves) := girolaw22_HourSolves k d.1 d.2.1 d.2.2.1
def R_girolaw22_HourSolves : Nat × Entry := (8, fun k nm args h => entry as_girolaw22_HourSolves rs_girolaw22_HourSolves (s_girolaw22_HourSolves k) pk_girolaw22_HourSolves nm args h)
theorem girolaw22_HourSolves_ev : EvOK E_girolaw22_HourSolves A_girolaw22_HourSolves 0 Proofs.Try.f8 as_girolaw22_HourSolves rs_girolaw22_HourSolves up_girolaw22_HourSolves s_girolaw22_HourSolves := by intro k d; kernel_rfl
theorem F_girolaw22_HourSolves : FnOK Proofs.Try.prog R_girolaw22_HourSolves := fn_b B_girolaw22_HourSolves girolaw22_HourSolves_ev (loopsOK_of (n := 2) (by kernel_rfl) fun i hi => match i, hi with | 0, _ => ⟨L_girolaw22_HourSolves_L0, by kernel_rfl, girolaw22_HourSolves_L0_ok⟩ | 1, _ => ⟨L_girolaw22_HourSolves_L1, by kernel_rfl, girolaw22_HourSolves_L1_ok⟩ | i + 2, hi => absurd hi (by omega))

end Go.Ab.Gi
