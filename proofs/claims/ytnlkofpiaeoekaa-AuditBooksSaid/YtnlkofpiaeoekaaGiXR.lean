/- The shallow functions are what the program does, printed (abprint.py). -/
import Derived.Test.YtnlkofpiaeoekaaGiXS
import Derived.Test.YtnlkofpiaeoekaaProg
set_option linter.unusedVariables false
set_option maxRecDepth 100000
namespace Go.Ab.Gi

theorem mixed_orders : Proofs.Try.prog.follows .mixedOrders = true := by kernel_rfl

/-! ### giro/day.Closes -/
noncomputable def E7q : Env := ⟨Proofs.Try.prog, fun _ => false, sumsOf []⟩
def A7q : Notes := ⟨[], []⟩
theorem B7q : EnvB E7q := env_n mixed_orders trivial
def as7q : List AS := [.agg [.int .i64, .dat false y0q, .int .i64, .int .i64, .int .i64], .c (.int .i64)]
def rs7q : RS := .c (.bool)
def pk7q : Bool → RL rs7q.cells := fun x => (x, ())
def up7q : RL rs7q.cells → Bool := fun d => d.1
def s7q (k : Nat) (d : AD as7q) := day_Closes k d.1 d.2.1 d.2.2.1 d.2.2.2.1 d.2.2.2.2.1 d.2.2.2.2.2.1
def R7q : Nat × Entry := (23, fun k nm args h => entry as7q rs7q (s7q k) pk7q nm args h)
theorem ev7q : EvOK E7q A7q 0 Proofs.Try.f23 as7q rs7q up7q s7q := by intro k d; kernel_rfl
theorem F7q : FnOK Proofs.Try.prog R7q := fn_0 B7q ev7q

/-! ### giro/pay.Ready -/
noncomputable def E12q : Env := ⟨Proofs.Try.prog, fun _ => false, sumsOf []⟩
def A12q : Notes := ⟨[], []⟩
theorem B12q : EnvB E12q := env_n mixed_orders trivial
def as12q : List AS := [.agg [.int .i64, .int .i64, .int .i64, .int .i64, .int .i64, .int .i64, .int .i64], .c (.int .i64)]
def rs12q : RS := .c (.bool)
def pk12q : Bool → RL rs12q.cells := fun x => (x, ())
def up12q : RL rs12q.cells → Bool := fun d => d.1
def s12q (k : Nat) (d : AD as12q) := pay_Ready k d.1 d.2.1 d.2.2.1 d.2.2.2.1 d.2.2.2.2.1 d.2.2.2.2.2.1 d.2.2.2.2.2.2.1 d.2.2.2.2.2.2.2.1
def R12q : Nat × Entry := (90, fun k nm args h => entry as12q rs12q (s12q k) pk12q nm args h)
theorem ev12q : EvOK E12q A12q 0 Proofs.Try.f90 as12q rs12q up12q s12q := by intro k d; kernel_rfl
theorem F12q : FnOK Proofs.Try.prog R12q := fn_0 B12q ev12q

/-! ### giro/view.Ready$1 -/
noncomputable def E13q : Env := ⟨Proofs.Try.prog, fun _ => false, sumsOf [R12q]⟩
def A13q : Notes := ⟨[], []⟩
theorem B13q : EnvB E13q := env_n mixed_orders ⟨F12q, trivial⟩
def as13q : List AS := [.agg [.int .i64, .int .i64, .int .i64, .int .i64, .int .i64, .int .i64, .int .i64], .ptr [.int .i64]]
def rs13q : RS := .c (.bool)
def pk13q : Bool → RL rs13q.cells := fun x => (x, ())
def up13q : RL rs13q.cells → Bool := fun d => d.1
def s13q (k : Nat) (d : AD as13q) := view_Ready_fn1 k d.1 d.2.1 d.2.2.1 d.2.2.2.1 d.2.2.2.2.1 d.2.2.2.2.2.1 d.2.2.2.2.2.2.1 d.2.2.2.2.2.2.2.1
def R13q : Nat × Entry := (89, fun k nm args h => entry as13q rs13q (s13q k) pk13q nm args h)
theorem ev13q : EvOK E13q A13q 0 Proofs.Try.f89 as13q rs13q up13q s13q := by intro k d; kernel_rfl
theorem F13q : FnOK Proofs.Try.prog R13q := fn_0 B13q ev13q

/-! ### giro/view.all -/
noncomputable def E14q : Env := ⟨Proofs.Try.prog, fun _ => false, sumsOf [R13q]⟩
def I14_0q : Spec := ⟨[(1, .c (.lit (.fn 89 [1001000]))), (5, .c (.lit (.osl 1001001 none))), (8, .c (.dat false y10q)), (9, .c (.int .i64)), (10, .c (.int .i64))], [.robox [.int .i64], .arr true y10q], [(5, none, y10q, false)]⟩
def X0_14_0q : Spec := ⟨[(5, .c (.lit (.osl 1001000 none)))], [.arr true y10q], []⟩
def O14_0q : List (Ex × Spec) := [(.exit 0, X0_14_0q)]
def c14_0q (f : view_all__view_Ready_fn1_L0T) (d : I14_0q.den) : Option view_all__view_Ready_fn1_L0X := f d.1.2.2.1.1 d.1.2.2.2.1.1 d.1.2.2.2.2.1.1 d.2.1.1 d.2.2.1
def T14_0q : OutD O14_0q → view_all__view_Ready_fn1_L0X := fun d => d.2.1
def e14_0q : Elim view_all__view_Ready_fn1_L0X := fun base x _ K => K (.exit 0) (stOf base X0_14_0q (((), ()), (x, ())))
def L14_0q : LoopSum := ⟨I14_0q, O14_0q, view_all__view_Ready_fn1_L0X, fun k d => c14_0q (view_all__view_Ready_fn1_L0 k k) d, e14_0q⟩
def A14q : Notes := ⟨[], [(3, L14_0q)]⟩
theorem B14q : EnvB E14q := env_n mixed_orders ⟨F13q, trivial⟩
theorem st14_0q : StepOK E14q A14q 0 23 (loopAt (bodyOf Proofs.Try.f87) 0) I14_0q O14_0q T14_0q c14_0q view_all__view_Ready_fn1_L0b := by intro k rec d; kernel_rfl
theorem lk14_0q : LoopOK E14q.P 1000 0 23 (loopAt (bodyOf Proofs.Try.f87) 0) L14_0q := loop_b B14q st14_0q view_all__view_Ready_fn1_L0 e14_0q (fun _ _ _ => rfl) loops0
def as14q : List AS := [.c (.dat false y10q), .fn 89 [[.int .i64]]]
def rs14q : RS := .c (.own y10q)
def pk14q : List K3q → RL rs14q.cells := fun x => (x, ())
def up14q : RL rs14q.cells → List K3q := fun d => d.1
def s14q (k : Nat) (d : AD as14q) := view_all__view_Ready_fn1 k d.1 d.2.1
def R14q : Nat × Entry := (87, fun k nm args h => entry as14q rs14q (s14q k) pk14q nm args h)
theorem ev14q : EvOK E14q A14q 0 Proofs.Try.f87 as14q rs14q up14q s14q := by intro k d; kernel_rfl
theorem F14q : FnOK Proofs.Try.prog R14q := fn_b B14q ev14q (loops1 lk14_0q)

/-! ### giro/view.Ready -/
noncomputable def E15q : Env := ⟨Proofs.Try.prog, fun _ => false, sumsOf [R14q]⟩
def A15q : Notes := ⟨[], []⟩
theorem B15q : EnvB E15q := env_n mixed_orders ⟨F14q, trivial⟩
def as15q : List AS := [.c (.dat false y10q), .c (.int .i64)]
def rs15q : RS := .c (.own y10q)
def pk15q : List K3q → RL rs15q.cells := fun x => (x, ())
def up15q : RL rs15q.cells → List K3q := fun d => d.1
def s15q (k : Nat) (d : AD as15q) := view_Ready k d.1 d.2.1
def R15q : Nat × Entry := (61, fun k nm args h => entry as15q rs15q (s15q k) pk15q nm args h)
theorem ev15q : EvOK E15q A15q 0 Proofs.Try.f61 as15q rs15q up15q s15q := by intro k d; kernel_rfl
theorem F15q : FnOK Proofs.Try.prog R15q := fn_0 B15q ev15q

/-! ### giro/view.May$1$1 -/
noncomputable def E16q : Env := ⟨Proofs.Try.prog, fun _ => false, sumsOf []⟩
def A16q : Notes := ⟨[], []⟩
theorem B16q : EnvB E16q := env_n mixed_orders trivial
def as16q : List AS := [.agg [.int .i64, .int .i64, .int .i64, .int .i64, .int .i64, .int .i64, .int .i64], .ptr [.int .i64, .int .i64, .int .i64, .int .i64, .int .i64, .int .i64, .int .i64]]
def rs16q : RS := .c (.bool)
def pk16q : Bool → RL rs16q.cells := fun x => (x, ())
def up16q : RL rs16q.cells → Bool := fun d => d.1
def s16q (k : Nat) (d : AD as16q) := view_May_fn1_fn1 k d.1 d.2.1 d.2.2.1 d.2.2.2.1 d.2.2.2.2.1 d.2.2.2.2.2.1 d.2.2.2.2.2.2.1 d.2.2.2.2.2.2.2.1 d.2.2.2.2.2.2.2.2.1 d.2.2.2.2.2.2.2.2.2.1 d.2.2.2.2.2.2.2.2.2.2.1 d.2.2.2.2.2.2.2.2.2.2.2.1 d.2.2.2.2.2.2.2.2.2.2.2.2.1 d.2.2.2.2.2.2.2.2.2.2.2.2.2.1
def R16q : Nat × Entry := (123, fun k nm args h => entry as16q rs16q (s16q k) pk16q nm args h)
theorem ev16q : EvOK E16q A16q 0 Proofs.Try.f123 as16q rs16q up16q s16q := by intro k d; kernel_rfl
theorem F16q : FnOK Proofs.Try.prog R16q := fn_0 B16q ev16q

/-! ### slices.IndexFunc[[]giro/api.Pay,giro/api.Pay] -/
noncomputable def E17q : Env := ⟨Proofs.Try.prog, fun _ => false, sumsOf [R16q]⟩
def I17_0q : Spec := ⟨[(0, .c (.dat false y10q)), (1, .c (.lit (.fn 123 [1001000]))), (7, .c (.int .i64)), (8, .c (.int .i64))], [.robox [.int .i64, .int .i64, .int .i64, .int .i64, .int .i64, .int .i64, .int .i64]], []⟩
def X0_17_0q : Spec := ⟨[], [], []⟩
def X1_17_0q : Spec := ⟨[(4, .c (.int .i64))], [], []⟩
def O17_0q : List (Ex × Spec) := [(.exit 0, X0_17_0q), (.ret, X1_17_0q)]
def c17_0q (f : slices_IndexFunc_Pay__view_May_fn1_fn1_L0T) (d : I17_0q.den) : Option (Unit ⊕ Int) := f d.1.1.1 d.1.2.2.1.1 d.1.2.2.2.1.1 d.2.1.1 d.2.1.2.1 d.2.1.2.2.1 d.2.1.2.2.2.1 d.2.1.2.2.2.2.1 d.2.1.2.2.2.2.2.1 d.2.1.2.2.2.2.2.2.1
def T17_0q : OutD O17_0q → (Unit ⊕ Int)
 | .inl d => .inl ()
 | .inr d => .inr d.1.1.1
def e17_0q : Elim (Unit ⊕ Int) := fun base x _ K => match x with
 | .inl x => K (.exit 0) (stOf base X0_17_0q ((), ()))
 | .inr x => K .ret (stOf base X1_17_0q (((x, ()), ()), ()))
def L17_0q : LoopSum := ⟨I17_0q, O17_0q, (Unit ⊕ Int), fun k d => c17_0q (slices_IndexFunc_Pay__view_May_fn1_fn1_L0 k k) d, e17_0q⟩
def A17q : Notes := ⟨[], [(2, L17_0q)]⟩
theorem B17q : EnvB E17q := env_n mixed_orders ⟨F16q, trivial⟩
theorem st17_0q : StepOK E17q A17q 0 19 (loopAt (bodyOf Proofs.Try.f104) 0) I17_0q O17_0q T17_0q c17_0q slices_IndexFunc_Pay__view_May_fn1_fn1_L0b := by intro k rec d; kernel_rfl
theorem lk17_0q : LoopOK E17q.P 1000 0 19 (loopAt (bodyOf Proofs.Try.f104) 0) L17_0q := loop_b B17q st17_0q slices_IndexFunc_Pay__view_May_fn1_fn1_L0 e17_0q (by intro o R K; rcases o with o | o <;> rfl) loops0
def as17q : List AS := [.c (.dat false y10q), .fn 123 [[.int .i64, .int .i64, .int .i64, .int .i64, .int .i64, .int .i64, .int .i64]]]
def rs17q : RS := .c (.int .i64)
def pk17q : Int → RL rs17q.cells := fun x => (x, ())
def up17q : RL rs17q.cells → Int := fun d => d.1
def s17q (k : Nat) (d : AD as17q) := slices_IndexFunc_Pay__view_May_fn1_fn1 k d.1 d.2.1 d.2.2.1 d.2.2.2.1 d.2.2.2.2.1 d.2.2.2.2.2.1 d.2.2.2.2.2.2.1 d.2.2.2.2.2.2.2.1
def R17q : Nat × Entry := (104, fun k nm args h => entry as17q rs17q (s17q k) pk17q nm args h)
theorem ev17q : EvOK E17q A17q 0 Proofs.Try.f104 as17q rs17q up17q s17q := by intro k d; kernel_rfl
theorem F17q : FnOK Proofs.Try.prog R17q := fn_b B17q ev17q (loops1 lk17_0q)

/-! ### slices.ContainsFunc[[]giro/api.Pay,giro/api.Pay] -/
noncomputable def E18q : Env := ⟨Proofs.Try.prog, fun _ => false, sumsOf [R17q]⟩
def A18q : Notes := ⟨[], []⟩
theorem B18q : EnvB E18q := env_n mixed_orders ⟨F17q, trivial⟩
def as18q : List AS := [.c (.dat false y10q), .fn 123 [[.int .i64, .int .i64, .int .i64, .int .i64, .int .i64, .int .i64, .int .i64]]]
def rs18q : RS := .c (.bool)
def pk18q : Bool → RL rs18q.cells := fun x => (x, ())
def up18q : RL rs18q.cells → Bool := fun d => d.1
def s18q (k : Nat) (d : AD as18q) := slices_ContainsFunc_Pay__view_May_fn1_fn1 k d.1 d.2.1 d.2.2.1 d.2.2.2.1 d.2.2.2.2.1 d.2.2.2.2.2.1 d.2.2.2.2.2.2.1 d.2.2.2.2.2.2.2.1
def R18q : Nat × Entry := (81, fun k nm args h => entry as18q rs18q (s18q k) pk18q nm args h)
theorem ev18q : EvOK E18q A18q 0 Proofs.Try.f81 as18q rs18q up18q s18q := by intro k d; kernel_rfl
theorem F18q : FnOK Proofs.Try.prog R18q := fn_0 B18q ev18q

/-! ### giro/view.May$1 -/
noncomputable def E19q : Env := ⟨Proofs.Try.prog, fun _ => false, sumsOf [R18q]⟩
def A19q : Notes := ⟨[], []⟩
theorem B19q : EnvB E19q := env_n mixed_orders ⟨F18q, trivial⟩
def as19q : List AX := [.agg [.int .i64, .int .i64, .int .i64, .int .i64, .int .i64, .int .i64, .int .i64], .ptr true [.map], .ptr false [.p (.dat false y10q)]]
def rs19q : RS := .c (.bool)
def os19q : List (List RC) := [[.map]]
def pk19q : Bool × (List K1q) → RL (rs19q.cells ++ os19q.flatten) := fun x => (x.1, x.2, ())
def up19q : RL (rs19q.cells ++ os19q.flatten) → Bool × (List K1q) := fun d => (d.1, d.2.1)
def s19q (k : Nat) (d : XD as19q) := view_May_fn1 k d.1 d.2.1 d.2.2.1 d.2.2.2.1 d.2.2.2.2.1 d.2.2.2.2.2.1 d.2.2.2.2.2.2.1 d.2.2.2.2.2.2.2.1 d.2.2.2.2.2.2.2.2.1
def R19q : Nat × Entry := (122, fun k nm args h => entryX as19q rs19q os19q (s19q k) pk19q nm args h)
theorem ev19q : EvOKX E19q A19q 3 Proofs.Try.f122 as19q rs19q os19q up19q s19q := by intro k d; kernel_rfl
theorem F19q : FnOK Proofs.Try.prog R19q := fn_x B19q ev19q loops0

/-! ### giro/view.all -/
noncomputable def E20q : Env := ⟨Proofs.Try.prog, fun _ => false, sumsOf [R19q]⟩
def I20_0q : Spec := ⟨[(1, .c (.lit (.fn 122 [1001000, 1001002]))), (5, .c (.lit (.osl 1001003 none))), (8, .c (.dat false y10q)), (9, .c (.int .i64)), (10, .c (.int .i64))], [.box true [.lit (.map 1001001)], .imap, .robox [.dat false y10q], .arr true y10q], [(5, none, y10q, false)]⟩
def X0_20_0q : Spec := ⟨[(1, .c (.lit (.fn 122 [1001000, 1001002]))), (5, .c (.lit (.osl 1001003 none)))], [.box true [.lit (.map 1001001)], .imap, .robox [.dat false y10q], .arr true y10q], []⟩
def O20_0q : List (Ex × Spec) := [(.exit 0, X0_20_0q)]
def c20_0q (f : view_all__view_May_fn1_L0T) (d : I20_0q.den) : Option view_all__view_May_fn1_L0X := f d.1.2.2.1.1 d.1.2.2.2.1.1 d.1.2.2.2.2.1.1 d.2.2.1 d.2.2.2.1.1 d.2.2.2.2.1
def T20_0q : OutD O20_0q → view_all__view_May_fn1_L0X := fun d => (d.2.2.1, d.2.2.2.1.1, d.2.2.2.2.1)
def e20_0q : Elim view_all__view_May_fn1_L0X := fun base x _ K => K (.exit 0) (stOf base X0_20_0q (((), (), ()), ((), x.1, (x.2.1, ()), x.2.2, ())))
def L20_0q : LoopSum := ⟨I20_0q, O20_0q, view_all__view_May_fn1_L0X, fun k d => c20_0q (view_all__view_May_fn1_L0 k k) d, e20_0q⟩
def A20q : Notes := ⟨[], [(3, L20_0q)]⟩
theorem B20q : EnvB E20q := env_n mixed_orders ⟨F19q, trivial⟩
theorem st20_0q : StepOK E20q A20q 2 23 (loopAt (bodyOf Proofs.Try.f87) 0) I20_0q O20_0q T20_0q c20_0q view_all__view_May_fn1_L0b := by intro k rec d; kernel_rfl
theorem lk20_0q : LoopOK E20q.P 1000 2 23 (loopAt (bodyOf Proofs.Try.f87) 0) L20_0q := loop_b B20q st20_0q view_all__view_May_fn1_L0 e20_0q (fun _ _ _ => rfl) loops0
def as20q : List AX := [.c (.p (.dat false y10q)), .fn 122 [(true, [.map]), (false, [.p (.dat false y10q)])]]
def rs20q : RS := .c (.own y10q)
def os20q : List (List RC) := [[.map]]
def pk20q : (List K3q) × (List K1q) → RL (rs20q.cells ++ os20q.flatten) := fun x => (x.1, x.2, ())
def up20q : RL (rs20q.cells ++ os20q.flatten) → (List K3q) × (List K1q) := fun d => (d.1, d.2.1)
def s20q (k : Nat) (d : XD as20q) := view_all__view_May_fn1 k d.1 d.2.1 d.2.2.1
def R20q : Nat × Entry := (87, fun k nm args h => entryX as20q rs20q os20q (s20q k) pk20q nm args h)
theorem ev20q : EvOKX E20q A20q 2 Proofs.Try.f87 as20q rs20q os20q up20q s20q := by intro k d; kernel_rfl
theorem F20q : FnOK Proofs.Try.prog R20q := fn_x B20q ev20q (loops1 lk20_0q)

/-! ### giro/view.May -/
noncomputable def E21q : Env := ⟨Proofs.Try.prog, fun _ => false, sumsOf [R15q, R20q]⟩
def A21q : Notes := ⟨[], []⟩
theorem B21q : EnvB E21q := env_n mixed_orders ⟨F15q, F20q, trivial⟩
def as21q : List AS := [.c (.dat false y10q), .c (.int .i64)]
def rs21q : RS := .c (.own y10q)
def pk21q : List K3q → RL rs21q.cells := fun x => (x, ())
def up21q : RL rs21q.cells → List K3q := fun d => d.1
def s21q (k : Nat) (d : AD as21q) := view_May k d.1 d.2.1
def R21q : Nat × Entry := (105, fun k nm args h => entry as21q rs21q (s21q k) pk21q nm args h)
theorem ev21q : EvOK E21q A21q 0 Proofs.Try.f105 as21q rs21q up21q s21q := by intro k d; kernel_rfl
theorem F21q : FnOK Proofs.Try.prog R21q := fn_0 B21q ev21q

/-! ### giro/fits.May -/
noncomputable def E22q : Env := ⟨Proofs.Try.prog, fun _ => false, sumsOf []⟩
def A22q : Notes := ⟨[], []⟩
theorem B22q : EnvB E22q := env_n mixed_orders trivial
def as22q : List AS := [.agg [.dat false y6q, .dat false (.sl (.int .i64)), .dat false (.int .i64), .dat false (.sl (.int .i64))], .agg [.int .i64, .int .i64, .int .i64, .int .i64, .int .i64, .int .i64, .int .i64]]
def rs22q : RS := .c (.bool)
def pk22q : Bool → RL rs22q.cells := fun x => (x, ())
def up22q : RL rs22q.cells → Bool := fun d => d.1
def s22q (k : Nat) (d : AD as22q) := fits_May k d.1 d.2.1 d.2.2.1 d.2.2.2.1 d.2.2.2.2.1 d.2.2.2.2.2.1 d.2.2.2.2.2.2.1 d.2.2.2.2.2.2.2.1 d.2.2.2.2.2.2.2.2.1 d.2.2.2.2.2.2.2.2.2.1 d.2.2.2.2.2.2.2.2.2.2.1
def R22q : Nat × Entry := (77, fun k nm args h => entry as22q rs22q (s22q k) pk22q nm args h)
theorem ev22q : EvOK E22q A22q 0 Proofs.Try.f77 as22q rs22q up22q s22q := by intro k d; kernel_rfl
theorem F22q : FnOK Proofs.Try.prog R22q := fn_0 B22q ev22q

/-! ### giro/fits.Fits$1 -/
noncomputable def E23q : Env := ⟨Proofs.Try.prog, fun _ => false, sumsOf [R22q]⟩
def A23q : Notes := ⟨[], []⟩
theorem B23q : EnvB E23q := env_n mixed_orders ⟨F22q, trivial⟩
def as23q : List AS := [.agg [.int .i64, .int .i64, .int .i64, .int .i64, .int .i64, .int .i64, .int .i64], .ptr [.dat false y6q, .dat false (.sl (.int .i64)), .dat false (.int .i64), .dat false (.sl (.int .i64))]]
def rs23q : RS := .c (.bool)
def pk23q : Bool → RL rs23q.cells := fun x => (x, ())
def up23q : RL rs23q.cells → Bool := fun d => d.1
def s23q (k : Nat) (d : AD as23q) := fits_Fits_fn1 k d.1 d.2.1 d.2.2.1 d.2.2.2.1 d.2.2.2.2.1 d.2.2.2.2.2.1 d.2.2.2.2.2.2.1 d.2.2.2.2.2.2.2.1 d.2.2.2.2.2.2.2.2.1 d.2.2.2.2.2.2.2.2.2.1 d.2.2.2.2.2.2.2.2.2.2.1
def R23q : Nat × Entry := (124, fun k nm args h => entry as23q rs23q (s23q k) pk23q nm args h)
theorem ev23q : EvOK E23q A23q 0 Proofs.Try.f124 as23q rs23q up23q s23q := by intro k d; kernel_rfl
theorem F23q : FnOK Proofs.Try.prog R23q := fn_0 B23q ev23q

/-! ### slices.IndexFunc[[]giro/api.Pay,giro/api.Pay] -/
noncomputable def E24q : Env := ⟨Proofs.Try.prog, fun _ => false, sumsOf [R23q]⟩
def I24_0q : Spec := ⟨[(0, .c (.dat false y10q)), (1, .c (.lit (.fn 124 [1001000]))), (7, .c (.int .i64)), (8, .c (.int .i64))], [.robox [.dat false y6q, .dat false (.sl (.int .i64)), .dat false (.int .i64), .dat false (.sl (.int .i64))]], []⟩
def X0_24_0q : Spec := ⟨[], [], []⟩
def X1_24_0q : Spec := ⟨[(4, .c (.int .i64))], [], []⟩
def O24_0q : List (Ex × Spec) := [(.exit 0, X0_24_0q), (.ret, X1_24_0q)]
def c24_0q (f : slices_IndexFunc_Pay__fits_Fits_fn1_L0T) (d : I24_0q.den) : Option (Unit ⊕ Int) := f d.1.1.1 d.1.2.2.1.1 d.1.2.2.2.1.1 d.2.1.1 d.2.1.2.1 d.2.1.2.2.1 d.2.1.2.2.2.1
def T24_0q : OutD O24_0q → (Unit ⊕ Int)
 | .inl d => .inl ()
 | .inr d => .inr d.1.1.1
def e24_0q : Elim (Unit ⊕ Int) := fun base x _ K => match x with
 | .inl x => K (.exit 0) (stOf base X0_24_0q ((), ()))
 | .inr x => K .ret (stOf base X1_24_0q (((x, ()), ()), ()))
def L24_0q : LoopSum := ⟨I24_0q, O24_0q, (Unit ⊕ Int), fun k d => c24_0q (slices_IndexFunc_Pay__fits_Fits_fn1_L0 k k) d, e24_0q⟩
def A24q : Notes := ⟨[], [(2, L24_0q)]⟩
theorem B24q : EnvB E24q := env_n mixed_orders ⟨F23q, trivial⟩
theorem st24_0q : StepOK E24q A24q 0 19 (loopAt (bodyOf Proofs.Try.f104) 0) I24_0q O24_0q T24_0q c24_0q slices_IndexFunc_Pay__fits_Fits_fn1_L0b := by intro k rec d; kernel_rfl
theorem lk24_0q : LoopOK E24q.P 1000 0 19 (loopAt (bodyOf Proofs.Try.f104) 0) L24_0q := loop_b B24q st24_0q slices_IndexFunc_Pay__fits_Fits_fn1_L0 e24_0q (by intro o R K; rcases o with o | o <;> rfl) loops0
def as24q : List AS := [.c (.dat false y10q), .fn 124 [[.dat false y6q, .dat false (.sl (.int .i64)), .dat false (.int .i64), .dat false (.sl (.int .i64))]]]
def rs24q : RS := .c (.int .i64)
def pk24q : Int → RL rs24q.cells := fun x => (x, ())
def up24q : RL rs24q.cells → Int := fun d => d.1
def s24q (k : Nat) (d : AD as24q) := slices_IndexFunc_Pay__fits_Fits_fn1 k d.1 d.2.1 d.2.2.1 d.2.2.2.1 d.2.2.2.2.1
def R24q : Nat × Entry := (104, fun k nm args h => entry as24q rs24q (s24q k) pk24q nm args h)
theorem ev24q : EvOK E24q A24q 0 Proofs.Try.f104 as24q rs24q up24q s24q := by intro k d; kernel_rfl
theorem F24q : FnOK Proofs.Try.prog R24q := fn_b B24q ev24q (loops1 lk24_0q)

/-! ### slices.ContainsFunc[[]giro/api.Pay,giro/api.Pay] -/
noncomputable def E25q : Env := ⟨Proofs.Try.prog, fun _ => false, sumsOf [R24q]⟩
def A25q : Notes := ⟨[], []⟩
theorem B25q : EnvB E25q := env_n mixed_orders ⟨F24q, trivial⟩
def as25q : List AS := [.c (.dat false y10q), .fn 124 [[.dat false y6q, .dat false (.sl (.int .i64)), .dat false (.int .i64), .dat false (.sl (.int .i64))]]]
def rs25q : RS := .c (.bool)
def pk25q : Bool → RL rs25q.cells := fun x => (x, ())
def up25q : RL rs25q.cells → Bool := fun d => d.1
def s25q (k : Nat) (d : AD as25q) := slices_ContainsFunc_Pay__fits_Fits_fn1 k d.1 d.2.1 d.2.2.1 d.2.2.2.1 d.2.2.2.2.1
def R25q : Nat × Entry := (81, fun k nm args h => entry as25q rs25q (s25q k) pk25q nm args h)
theorem ev25q : EvOK E25q A25q 0 Proofs.Try.f81 as25q rs25q up25q s25q := by intro k d; kernel_rfl
theorem F25q : FnOK Proofs.Try.prog R25q := fn_0 B25q ev25q

/-! ### giro/lim.isSize -/
noncomputable def E26q : Env := ⟨Proofs.Try.prog, fun _ => false, sumsOf []⟩
def A26q : Notes := ⟨[], []⟩
theorem B26q : EnvB E26q := env_n mixed_orders trivial
def as26q : List AS := [.c (.int .i64)]
def rs26q : RS := .c (.bool)
def pk26q : Bool → RL rs26q.cells := fun x => (x, ())
def up26q : RL rs26q.cells → Bool := fun d => d.1
def s26q (k : Nat) (d : AD as26q) := lim_isSize k d.1
def R26q : Nat × Entry := (51, fun k nm args h => entry as26q rs26q (s26q k) pk26q nm args h)
theorem ev26q : EvOK E26q A26q 0 Proofs.Try.f51 as26q rs26q up26q s26q := by intro k d; kernel_rfl
theorem F26q : FnOK Proofs.Try.prog R26q := fn_0 B26q ev26q

/-! ### giro/lim.Row -/
noncomputable def E27q : Env := ⟨Proofs.Try.prog, fun _ => false, sumsOf [R26q]⟩
def I27_0q : Spec := ⟨[(1, .c (.int .i64)), (5, .c (.lit (.osl 1001000 none))), (13, .c (.int .i64)), (14, .c (.int .i64))], [.arr true (.int .i64)], []⟩
def X0_27_0q : Spec := ⟨[(5, .c (.lit (.osl 1001000 none)))], [.arr true (.int .i64)], []⟩
def O27_0q : List (Ex × Spec) := [(.exit 0, X0_27_0q)]
def c27_0q (f : lim_Row_L0T) (d : I27_0q.den) : Option (List Int) := f d.1.1.1 d.1.2.2.1.1 d.1.2.2.2.1.1 d.2.1
def T27_0q : OutD O27_0q → (List Int) := fun d => d.2.1
def e27_0q : Elim (List Int) := fun base x _ K => K (.exit 0) (stOf base X0_27_0q (((), ()), (x, ())))
def L27_0q : LoopSum := ⟨I27_0q, O27_0q, (List Int), fun k d => c27_0q (lim_Row_L0 k k) d, e27_0q⟩
def A27q : Notes := ⟨[], [(5, L27_0q)]⟩
theorem B27q : EnvB E27q := env_n mixed_orders ⟨F26q, trivial⟩
theorem st27_0q : StepOK E27q A27q 0 23 (loopAt (bodyOf Proofs.Try.f46) 0) I27_0q O27_0q T27_0q c27_0q lim_Row_L0b := by intro k rec d; kernel_rfl
theorem lk27_0q : LoopOK E27q.P 1000 0 23 (loopAt (bodyOf Proofs.Try.f46) 0) L27_0q := loop_b B27q st27_0q lim_Row_L0 e27_0q (fun _ _ _ => rfl) loops0
def as27q : List AS := [.c (.int .i64), .c (.int .i64)]
def rs27q : RS := .c (.own (.int .i64))
def pk27q : List Int → RL rs27q.cells := fun x => (x, ())
def up27q : RL rs27q.cells → List Int := fun d => d.1
def s27q (k : Nat) (d : AD as27q) := lim_Row k d.1 d.2.1
def R27q : Nat × Entry := (46, fun k nm args h => entry as27q rs27q (s27q k) pk27q nm args h)
theorem ev27q : EvOK E27q A27q 0 Proofs.Try.f46 as27q rs27q up27q s27q := by intro k d; kernel_rfl
theorem F27q : FnOK Proofs.Try.prog R27q := fn_b B27q ev27q (loops1 lk27_0q)

/-! ### giro/lim.Square -/
noncomputable def E28q : Env := ⟨Proofs.Try.prog, fun _ => false, sumsOf [R26q, R27q]⟩
def I28_0q : Spec := ⟨[(0, .c (.int .i64)), (1, .c (.int .i64)), (5, .c (.lit (.osl 1001000 none))), (13, .c (.int .i64)), (14, .c (.int .i64))], [.mat], []⟩
def X0_28_0q : Spec := ⟨[(5, .c (.lit (.osl 1001000 none)))], [.mat], []⟩
def O28_0q : List (Ex × Spec) := [(.exit 0, X0_28_0q)]
def c28_0q (f : lim_Square_L0T) (d : I28_0q.den) : Option (List (List Int)) := f d.1.1.1 d.1.2.1.1 d.1.2.2.2.1.1 d.1.2.2.2.2.1.1 d.2.1
def T28_0q : OutD O28_0q → (List (List Int)) := fun d => d.2.1
def e28_0q : Elim (List (List Int)) := fun base x _ K => K (.exit 0) (stOf base X0_28_0q (((), ()), (x, ())))
def L28_0q : LoopSum := ⟨I28_0q, O28_0q, (List (List Int)), fun k d => c28_0q (lim_Square_L0 k k) d, e28_0q⟩
def A28q : Notes := ⟨[11], [(5, L28_0q)]⟩
theorem B28q : EnvB E28q := env_n mixed_orders ⟨F26q, F27q, trivial⟩
theorem st28_0q : StepOK E28q A28q 0 25 (loopAt (bodyOf Proofs.Try.f45) 0) I28_0q O28_0q T28_0q c28_0q lim_Square_L0b := by intro k rec d; kernel_rfl
theorem lk28_0q : LoopOK E28q.P 1000 0 25 (loopAt (bodyOf Proofs.Try.f45) 0) L28_0q := loop_b B28q st28_0q lim_Square_L0 e28_0q (fun _ _ _ => rfl) loops0
def as28q : List AS := [.c (.int .i64), .c (.int .i64)]
def rs28q : RS := .c (.mat)
def pk28q : List (List Int) → RL rs28q.cells := fun x => (x, ())
def up28q : RL rs28q.cells → List (List Int) := fun d => d.1
def s28q (k : Nat) (d : AD as28q) := lim_Square k d.1 d.2.1
def R28q : Nat × Entry := (45, fun k nm args h => entry as28q rs28q (s28q k) pk28q nm args h)
theorem ev28q : EvOK E28q A28q 0 Proofs.Try.f45 as28q rs28q up28q s28q := by intro k d; kernel_rfl
theorem F28q : FnOK Proofs.Try.prog R28q := fn_b B28q ev28q (loops1 lk28_0q)

/-! ### giro/fits.moved -/
noncomputable def E29q : Env := ⟨Proofs.Try.prog, fun _ => false, sumsOf [R27q, R28q]⟩
def I29_0q : Spec := ⟨[(4, .c (.lit (.ptr 1001000 0))), (5, .c (.lit (.ptr 1001001 0))), (15, .c (.dat false y10q)), (16, .c (.int .i64)), (17, .c (.int .i64))], [.box true [.lit .nsl, .lit .nsl, .lit .nsl], .box true [.lit (.osl 1001002 none), .lit (.osl 1001003 none), .lit (.osl 1001004 none)], .arr true (.int .i64), .arr true (.int .i64), .mat], []⟩
def X0_29_0q : Spec := ⟨[(4, .c (.lit (.ptr 1001000 0))), (5, .c (.lit (.ptr 1001001 0)))], [.box true [.lit .nsl, .lit .nsl, .lit .nsl], .box true [.lit (.osl 1001002 none), .lit (.osl 1001003 none), .lit (.osl 1001004 none)], .arr true (.int .i64), .arr true (.int .i64), .mat], []⟩
def O29_0q : List (Ex × Spec) := [(.exit 0, X0_29_0q)]
def c29_0q (f : fits_moved_L0T) (d : I29_0q.den) : Option fits_moved_L0X := f d.1.2.2.1.1 d.1.2.2.2.1.1 d.1.2.2.2.2.1.1 d.2.2.2.1 d.2.2.2.2.1 d.2.2.2.2.2.1
def T29_0q : OutD O29_0q → fits_moved_L0X := fun d => (d.2.2.2.1, d.2.2.2.2.1, d.2.2.2.2.2.1)
def e29_0q : Elim fits_moved_L0X := fun base x _ K => K (.exit 0) (stOf base X0_29_0q (((), (), ()), ((), (), x.1, x.2.1, x.2.2, ())))
def L29_0q : LoopSum := ⟨I29_0q, O29_0q, fits_moved_L0X, fun k d => c29_0q (fits_moved_L0 k k) d, e29_0q⟩
def A29q : Notes := ⟨[], [(3, L29_0q)]⟩
theorem B29q : EnvB E29q := env_n mixed_orders ⟨F27q, F28q, trivial⟩
theorem st29_0q : StepOK E29q A29q 0 84 (loopAt (bodyOf Proofs.Try.f108) 0) I29_0q O29_0q T29_0q c29_0q fits_moved_L0b := by intro k rec d; kernel_rfl
theorem lk29_0q : LoopOK E29q.P 1000 0 84 (loopAt (bodyOf Proofs.Try.f108) 0) L29_0q := loop_b B29q st29_0q fits_moved_L0 e29_0q (fun _ _ _ => rfl) loops0
def as29q : List AS := [.c (.int .i64), .c (.dat false y10q)]
def rs29q : RS := .agg [.own (.int .i64), .own (.int .i64), .mat]
def pk29q : (List Int) × (List Int) × (List (List Int)) → RL rs29q.cells := fun x => (x.1, x.2.1, x.2.2, ())
def up29q : RL rs29q.cells → (List Int) × (List Int) × (List (List Int)) := fun d => (d.1, d.2.1, d.2.2.1)
def s29q (k : Nat) (d : AD as29q) := fits_moved k d.1 d.2.1
def R29q : Nat × Entry := (108, fun k nm args h => entry as29q rs29q (s29q k) pk29q nm args h)
theorem ev29q : EvOK E29q A29q 0 Proofs.Try.f108 as29q rs29q up29q s29q := by intro k d; kernel_rfl
theorem F29q : FnOK Proofs.Try.prog R29q := fn_b B29q ev29q (loops1 lk29_0q)

/-! ### giro/fits.Short$1 -/
noncomputable def E30q : Env := ⟨Proofs.Try.prog, fun _ => false, sumsOf []⟩
def A30q : Notes := ⟨[], []⟩
theorem B30q : EnvB E30q := env_n mixed_orders trivial
def as30q : List AS := [.agg [.int .i64, .int .i64, .int .i64, .int .i64, .int .i64, .int .i64, .int .i64], .ptr [.int .i64]]
def rs30q : RS := .c (.bool)
def pk30q : Bool → RL rs30q.cells := fun x => (x, ())
def up30q : RL rs30q.cells → Bool := fun d => d.1
def s30q (k : Nat) (d : AD as30q) := fits_Short_fn1 k d.1 d.2.1 d.2.2.1 d.2.2.2.1 d.2.2.2.2.1 d.2.2.2.2.2.1 d.2.2.2.2.2.2.1 d.2.2.2.2.2.2.2.1
def R30q : Nat × Entry := (109, fun k nm args h => entry as30q rs30q (s30q k) pk30q nm args h)
theorem ev30q : EvOK E30q A30q 0 Proofs.Try.f109 as30q rs30q up30q s30q := by intro k d; kernel_rfl
theorem F30q : FnOK Proofs.Try.prog R30q := fn_0 B30q ev30q

/-! ### slices.IndexFunc[[]giro/api.Pay,giro/api.Pay] -/
noncomputable def E31q : Env := ⟨Proofs.Try.prog, fun _ => false, sumsOf [R30q]⟩
def I31_0q : Spec := ⟨[(0, .c (.dat false y10q)), (1, .c (.lit (.fn 109 [1001000]))), (7, .c (.int .i64)), (8, .c (.int .i64))], [.robox [.int .i64]], []⟩
def X0_31_0q : Spec := ⟨[], [], []⟩
def X1_31_0q : Spec := ⟨[(4, .c (.int .i64))], [], []⟩
def O31_0q : List (Ex × Spec) := [(.exit 0, X0_31_0q), (.ret, X1_31_0q)]
def c31_0q (f : slices_IndexFunc_Pay__fits_Short_fn1_L0T) (d : I31_0q.den) : Option (Unit ⊕ Int) := f d.1.1.1 d.1.2.2.1.1 d.1.2.2.2.1.1 d.2.1.1
def T31_0q : OutD O31_0q → (Unit ⊕ Int)
 | .inl d => .inl ()
 | .inr d => .inr d.1.1.1
def e31_0q : Elim (Unit ⊕ Int) := fun base x _ K => match x with
 | .inl x => K (.exit 0) (stOf base X0_31_0q ((), ()))
 | .inr x => K .ret (stOf base X1_31_0q (((x, ()), ()), ()))
def L31_0q : LoopSum := ⟨I31_0q, O31_0q, (Unit ⊕ Int), fun k d => c31_0q (slices_IndexFunc_Pay__fits_Short_fn1_L0 k k) d, e31_0q⟩
def A31q : Notes := ⟨[], [(2, L31_0q)]⟩
theorem B31q : EnvB E31q := env_n mixed_orders ⟨F30q, trivial⟩
theorem st31_0q : StepOK E31q A31q 0 19 (loopAt (bodyOf Proofs.Try.f104) 0) I31_0q O31_0q T31_0q c31_0q slices_IndexFunc_Pay__fits_Short_fn1_L0b := by intro k rec d; kernel_rfl
theorem lk31_0q : LoopOK E31q.P 1000 0 19 (loopAt (bodyOf Proofs.Try.f104) 0) L31_0q := loop_b B31q st31_0q slices_IndexFunc_Pay__fits_Short_fn1_L0 e31_0q (by intro o R K; rcases o with o | o <;> rfl) loops0
def as31q : List AS := [.c (.dat false y10q), .fn 109 [[.int .i64]]]
def rs31q : RS := .c (.int .i64)
def pk31q : Int → RL rs31q.cells := fun x => (x, ())
def up31q : RL rs31q.cells → Int := fun d => d.1
def s31q (k : Nat) (d : AD as31q) := slices_IndexFunc_Pay__fits_Short_fn1 k d.1 d.2.1
def R31q : Nat × Entry := (104, fun k nm args h => entry as31q rs31q (s31q k) pk31q nm args h)
theorem ev31q : EvOK E31q A31q 0 Proofs.Try.f104 as31q rs31q up31q s31q := by intro k d; kernel_rfl
theorem F31q : FnOK Proofs.Try.prog R31q := fn_b B31q ev31q (loops1 lk31_0q)

/-! ### slices.ContainsFunc[[]giro/api.Pay,giro/api.Pay] -/
noncomputable def E32q : Env := ⟨Proofs.Try.prog, fun _ => false, sumsOf [R31q]⟩
def A32q : Notes := ⟨[], []⟩
theorem B32q : EnvB E32q := env_n mixed_orders ⟨F31q, trivial⟩
def as32q : List AS := [.c (.dat false y10q), .fn 109 [[.int .i64]]]
def rs32q : RS := .c (.bool)
def pk32q : Bool → RL rs32q.cells := fun x => (x, ())
def up32q : RL rs32q.cells → Bool := fun d => d.1
def s32q (k : Nat) (d : AD as32q) := slices_ContainsFunc_Pay__fits_Short_fn1 k d.1 d.2.1
def R32q : Nat × Entry := (81, fun k nm args h => entry as32q rs32q (s32q k) pk32q nm args h)
theorem ev32q : EvOK E32q A32q 0 Proofs.Try.f81 as32q rs32q up32q s32q := by intro k d; kernel_rfl
theorem F32q : FnOK Proofs.Try.prog R32q := fn_0 B32q ev32q

/-! ### giro/lim.Net -/
noncomputable def E33q : Env := ⟨Proofs.Try.prog, fun _ => false, sumsOf []⟩
def I33_0q : Spec := ⟨[(5, .c (.int .i64)), (12, .c (.dat false (.int .i64))), (13, .c (.int .i64)), (14, .c (.int .i64))], [], []⟩
def X0_33_0q : Spec := ⟨[(5, .c (.int .i64))], [], []⟩
def O33_0q : List (Ex × Spec) := [(.exit 0, X0_33_0q)]
def c33_0q (f : Int → List Int → Int → Int → Option Int) (d : I33_0q.den) : Option Int := f d.1.1.1 d.1.2.1.1 d.1.2.2.1.1 d.1.2.2.2.1.1
def T33_0q : OutD O33_0q → Int := fun d => d.1.1.1
def e33_0q : Elim Int := fun base x _ K => K (.exit 0) (stOf base X0_33_0q (((x, ()), ()), ()))
def L33_0q : LoopSum := ⟨I33_0q, O33_0q, Int, fun k d => c33_0q (lim_Net_L0 k k) d, e33_0q⟩
def A33q : Notes := ⟨[], [(3, L33_0q)]⟩
theorem B33q : EnvB E33q := env_n mixed_orders trivial
theorem st33_0q : StepOK E33q A33q 0 23 (loopAt (bodyOf Proofs.Try.f125) 0) I33_0q O33_0q T33_0q c33_0q lim_Net_L0b := by intro k rec d; kernel_rfl
theorem lk33_0q : LoopOK E33q.P 1000 0 23 (loopAt (bodyOf Proofs.Try.f125) 0) L33_0q := loop_b B33q st33_0q lim_Net_L0 e33_0q (fun _ _ _ => rfl) loops0
def as33q : List AS := [.agg [.dat false y6q, .dat false (.sl (.int .i64)), .dat false (.int .i64), .dat false (.sl (.int .i64))], .c (.int .i64)]
def rs33q : RS := .c (.int .i64)
def pk33q : Int → RL rs33q.cells := fun x => (x, ())
def up33q : RL rs33q.cells → Int := fun d => d.1
def s33q (k : Nat) (d : AD as33q) := lim_Net k d.1 d.2.1 d.2.2.1 d.2.2.2.1 d.2.2.2.2.1
def R33q : Nat × Entry := (125, fun k nm args h => entry as33q rs33q (s33q k) pk33q nm args h)
theorem ev33q : EvOK E33q A33q 0 Proofs.Try.f125 as33q rs33q up33q s33q := by intro k d; kernel_rfl
theorem F33q : FnOK Proofs.Try.prog R33q := fn_b B33q ev33q (loops1 lk33_0q)

/-! ### giro/fits.over -/
noncomputable def E34q : Env := ⟨Proofs.Try.prog, fun _ => false, sumsOf []⟩
def A34q : Notes := ⟨[], []⟩
theorem B34q : EnvB E34q := env_n mixed_orders trivial
def as34q : List AS := [.c (.int .i64), .c (.int .i64)]
def rs34q : RS := .c (.bool)
def pk34q : Bool → RL rs34q.cells := fun x => (x, ())
def up34q : RL rs34q.cells → Bool := fun d => d.1
def s34q (k : Nat) (d : AD as34q) := fits_over k d.1 d.2.1
def R34q : Nat × Entry := (126, fun k nm args h => entry as34q rs34q (s34q k) pk34q nm args h)
theorem ev34q : EvOK E34q A34q 0 Proofs.Try.f126 as34q rs34q up34q s34q := by intro k d; kernel_rfl
theorem F34q : FnOK Proofs.Try.prog R34q := fn_0 B34q ev34q

/-! ### giro/acct.Kept -/
noncomputable def E35q : Env := ⟨Proofs.Try.prog, fun _ => false, sumsOf []⟩
def A35q : Notes := ⟨[], []⟩
theorem B35q : EnvB E35q := env_n mixed_orders trivial
def as35q : List AS := [.agg [.int .i64, .int .i64, .int .i64], .c (.int .i64)]
def rs35q : RS := .c (.int .i64)
def pk35q : Int → RL rs35q.cells := fun x => (x, ())
def up35q : RL rs35q.cells → Int := fun d => d.1
def s35q (k : Nat) (d : AD as35q) := acct_Kept k d.1 d.2.1 d.2.2.1 d.2.2.2.1
def R35q : Nat × Entry := (93, fun k nm args h => entry as35q rs35q (s35q k) pk35q nm args h)
theorem ev35q : EvOK E35q A35q 0 Proofs.Try.f93 as35q rs35q up35q s35q := by intro k d; kernel_rfl
theorem F35q : FnOK Proofs.Try.prog R35q := fn_0 B35q ev35q

/-! ### (giro/fits.move).isShort$1 -/
noncomputable def E36q : Env := ⟨Proofs.Try.prog, fun _ => false, sumsOf [R35q, R34q]⟩
def A36q : Notes := ⟨[], []⟩
theorem B36q : EnvB E36q := env_n mixed_orders ⟨F35q, F34q, trivial⟩
def as36q : List AS := [.agg [.int .i64, .int .i64, .int .i64, .int .i64, .int .i64, .int .i64, .int .i64], .ptr [.int .i64], .ptr [.int .i64, .int .i64, .int .i64], .ptr [.dat false (.int .i64), .dat false (.int .i64), .dat false (.sl (.int .i64))], .ptr [.int .i64], .ptr [.dat false y6q, .dat false (.sl (.int .i64)), .dat false (.int .i64), .dat false (.sl (.int .i64))]]
def rs36q : RS := .c (.bool)
def pk36q : Bool → RL rs36q.cells := fun x => (x, ())
def up36q : RL rs36q.cells → Bool := fun d => d.1
def s36q (k : Nat) (d : AD as36q) := fits_move_isShort_fn1 k d.1 d.2.1 d.2.2.1 d.2.2.2.1 d.2.2.2.2.1 d.2.2.2.2.2.1 d.2.2.2.2.2.2.1 d.2.2.2.2.2.2.2.1 d.2.2.2.2.2.2.2.2.1 d.2.2.2.2.2.2.2.2.2.1 d.2.2.2.2.2.2.2.2.2.2.1 d.2.2.2.2.2.2.2.2.2.2.2.1 d.2.2.2.2.2.2.2.2.2.2.2.2.1 d.2.2.2.2.2.2.2.2.2.2.2.2.2.1 d.2.2.2.2.2.2.2.2.2.2.2.2.2.2.1 d.2.2.2.2.2.2.2.2.2.2.2.2.2.2.2.1 d.2.2.2.2.2.2.2.2.2.2.2.2.2.2.2.2.1 d.2.2.2.2.2.2.2.2.2.2.2.2.2.2.2.2.2.1 d.2.2.2.2.2.2.2.2.2.2.2.2.2.2.2.2.2.2.1
def R36q : Nat × Entry := (127, fun k nm args h => entry as36q rs36q (s36q k) pk36q nm args h)
theorem ev36q : EvOK E36q A36q 0 Proofs.Try.f127 as36q rs36q up36q s36q := by intro k d; kernel_rfl
theorem F36q : FnOK Proofs.Try.prog R36q := fn_0 B36q ev36q

/-! ### slices.IndexFunc[[]giro/api.Pay,giro/api.Pay] -/
noncomputable def E37q : Env := ⟨Proofs.Try.prog, fun _ => false, sumsOf [R36q]⟩
def I37_0q : Spec := ⟨[(0, .c (.dat false y10q)), (1, .c (.lit (.fn 127 [1001000, 1001001, 1001002, 1001003, 1001004]))), (7, .c (.int .i64)), (8, .c (.int .i64))], [.robox [.int .i64], .robox [.int .i64, .int .i64, .int .i64], .robox [.dat false (.int .i64), .dat false (.int .i64), .dat false (.sl (.int .i64))], .robox [.int .i64], .robox [.dat false y6q, .dat false (.sl (.int .i64)), .dat false (.int .i64), .dat false (.sl (.int .i64))]], []⟩
def X0_37_0q : Spec := ⟨[], [], []⟩
def X1_37_0q : Spec := ⟨[(4, .c (.int .i64))], [], []⟩
def O37_0q : List (Ex × Spec) := [(.exit 0, X0_37_0q), (.ret, X1_37_0q)]
def c37_0q (f : slices_IndexFunc_Pay__fits_move_isShort_fn1_L0T) (d : I37_0q.den) : Option (Unit ⊕ Int) := f d.1.1.1 d.1.2.2.1.1 d.1.2.2.2.1.1 d.2.1.1 d.2.2.1.1 d.2.2.1.2.1 d.2.2.1.2.2.1 d.2.2.2.1.1 d.2.2.2.1.2.1 d.2.2.2.1.2.2.1 d.2.2.2.2.1.1 d.2.2.2.2.2.1.1 d.2.2.2.2.2.1.2.1 d.2.2.2.2.2.1.2.2.1 d.2.2.2.2.2.1.2.2.2.1
def T37_0q : OutD O37_0q → (Unit ⊕ Int)
 | .inl d => .inl ()
 | .inr d => .inr d.1.1.1
def e37_0q : Elim (Unit ⊕ Int) := fun base x _ K => match x with
 | .inl x => K (.exit 0) (stOf base X0_37_0q ((), ()))
 | .inr x => K .ret (stOf base X1_37_0q (((x, ()), ()), ()))
def L37_0q : LoopSum := ⟨I37_0q, O37_0q, (Unit ⊕ Int), fun k d => c37_0q (slices_IndexFunc_Pay__fits_move_isShort_fn1_L0 k k) d, e37_0q⟩
def A37q : Notes := ⟨[], [(2, L37_0q)]⟩
theorem B37q : EnvB E37q := env_n mixed_orders ⟨F36q, trivial⟩
theorem st37_0q : StepOK E37q A37q 0 19 (loopAt (bodyOf Proofs.Try.f104) 0) I37_0q O37_0q T37_0q c37_0q slices_IndexFunc_Pay__fits_move_isShort_fn1_L0b := by intro k rec d; kernel_rfl
theorem lk37_0q : LoopOK E37q.P 1000 0 19 (loopAt (bodyOf Proofs.Try.f104) 0) L37_0q := loop_b B37q st37_0q slices_IndexFunc_Pay__fits_move_isShort_fn1_L0 e37_0q (by intro o R K; rcases o with o | o <;> rfl) loops0
def as37q : List AS := [.c (.dat false y10q), .fn 127 [[.int .i64], [.int .i64, .int .i64, .int .i64], [.dat false (.int .i64), .dat false (.int .i64), .dat false (.sl (.int .i64))], [.int .i64], [.dat false y6q, .dat false (.sl (.int .i64)), .dat false (.int .i64), .dat false (.sl (.int .i64))]]]
def rs37q : RS := .c (.int .i64)
def pk37q : Int → RL rs37q.cells := fun x => (x, ())
def up37q : RL rs37q.cells → Int := fun d => d.1
def s37q (k : Nat) (d : AD as37q) := slices_IndexFunc_Pay__fits_move_isShort_fn1 k d.1 d.2.1 d.2.2.1 d.2.2.2.1 d.2.2.2.2.1 d.2.2.2.2.2.1 d.2.2.2.2.2.2.1 d.2.2.2.2.2.2.2.1 d.2.2.2.2.2.2.2.2.1 d.2.2.2.2.2.2.2.2.2.1 d.2.2.2.2.2.2.2.2.2.2.1 d.2.2.2.2.2.2.2.2.2.2.2.1 d.2.2.2.2.2.2.2.2.2.2.2.2.1
def R37q : Nat × Entry := (104, fun k nm args h => entry as37q rs37q (s37q k) pk37q nm args h)
theorem ev37q : EvOK E37q A37q 0 Proofs.Try.f104 as37q rs37q up37q s37q := by intro k d; kernel_rfl
theorem F37q : FnOK Proofs.Try.prog R37q := fn_b B37q ev37q (loops1 lk37_0q)

/-! ### slices.ContainsFunc[[]giro/api.Pay,giro/api.Pay] -/
noncomputable def E38q : Env := ⟨Proofs.Try.prog, fun _ => false, sumsOf [R37q]⟩
def A38q : Notes := ⟨[], []⟩
theorem B38q : EnvB E38q := env_n mixed_orders ⟨F37q, trivial⟩
def as38q : List AS := [.c (.dat false y10q), .fn 127 [[.int .i64], [.int .i64, .int .i64, .int .i64], [.dat false (.int .i64), .dat false (.int .i64), .dat false (.sl (.int .i64))], [.int .i64], [.dat false y6q, .dat false (.sl (.int .i64)), .dat false (.int .i64), .dat false (.sl (.int .i64))]]]
def rs38q : RS := .c (.bool)
def pk38q : Bool → RL rs38q.cells := fun x => (x, ())
def up38q : RL rs38q.cells → Bool := fun d => d.1
def s38q (k : Nat) (d : AD as38q) := slices_ContainsFunc_Pay__fits_move_isShort_fn1 k d.1 d.2.1 d.2.2.1 d.2.2.2.1 d.2.2.2.2.1 d.2.2.2.2.2.1 d.2.2.2.2.2.2.1 d.2.2.2.2.2.2.2.1 d.2.2.2.2.2.2.2.2.1 d.2.2.2.2.2.2.2.2.2.1 d.2.2.2.2.2.2.2.2.2.2.1 d.2.2.2.2.2.2.2.2.2.2.2.1 d.2.2.2.2.2.2.2.2.2.2.2.2.1
def R38q : Nat × Entry := (81, fun k nm args h => entry as38q rs38q (s38q k) pk38q nm args h)
theorem ev38q : EvOK E38q A38q 0 Proofs.Try.f81 as38q rs38q up38q s38q := by intro k d; kernel_rfl
theorem F38q : FnOK Proofs.Try.prog R38q := fn_0 B38q ev38q

/-! ### (giro/fits.move).isShort -/
noncomputable def E39q : Env := ⟨Proofs.Try.prog, fun _ => false, sumsOf [R33q, R34q, R38q]⟩
def I39_0q : Spec := ⟨[(3, .c (.dat false y10q)), (4, .c (.lit (.ptr 1001000 0))), (5, .c (.lit (.ptr 1001001 0))), (6, .c (.lit (.ptr 1001002 0))), (9, .c (.lit (.ptr 1001003 0))), (10, .c (.lit (.ptr 1001004 0))), (11, .c (.int .i64)), (39, .c (.dat false (.int .i64))), (40, .c (.int .i64)), (41, .c (.int .i64))], [.box true [.dat false (.int .i64), .dat false (.int .i64), .dat false (.sl (.int .i64))], .box true [.dat false y6q, .dat false (.sl (.int .i64)), .dat false (.int .i64), .dat false (.sl (.int .i64))], .box true [.int .i64], .box true [.int .i64, .int .i64, .int .i64], .box true [.int .i64]], []⟩
def X0_39_0q : Spec := ⟨[(3, .c (.dat false y10q)), (4, .c (.lit (.ptr 1001000 0))), (5, .c (.lit (.ptr 1001001 0))), (6, .c (.lit (.ptr 1001002 0))), (9, .c (.lit (.ptr 1001003 0))), (10, .c (.lit (.ptr 1001004 0))), (11, .c (.int .i64))], [.box true [.dat false (.int .i64), .dat false (.int .i64), .dat false (.sl (.int .i64))], .box true [.dat false y6q, .dat false (.sl (.int .i64)), .dat false (.int .i64), .dat false (.sl (.int .i64))], .box true [.int .i64], .box true [.int .i64, .int .i64, .int .i64], .box true [.int .i64]], []⟩
def O39_0q : List (Ex × Spec) := [(.exit 0, X0_39_0q)]
def c39_0q (f : fits_move_isShort_L0T) (d : I39_0q.den) : Option fits_move_isShort_L0X := f d.1.1.1 d.1.2.2.2.2.2.2.1.1 d.1.2.2.2.2.2.2.2.1.1 d.1.2.2.2.2.2.2.2.2.1.1 d.1.2.2.2.2.2.2.2.2.2.1.1 d.2.1.1 d.2.1.2.1 d.2.1.2.2.1 d.2.2.1.1 d.2.2.1.2.1 d.2.2.1.2.2.1 d.2.2.1.2.2.2.1 d.2.2.2.1.1 d.2.2.2.2.1.1 d.2.2.2.2.1.2.1 d.2.2.2.2.1.2.2.1 d.2.2.2.2.2.1.1
def T39_0q : OutD O39_0q → fits_move_isShort_L0X := fun d => (d.1.1.1, d.1.2.2.2.2.2.2.1.1, d.2.1.1, d.2.1.2.1, d.2.1.2.2.1, d.2.2.1.1, d.2.2.1.2.1, d.2.2.1.2.2.1, d.2.2.1.2.2.2.1, d.2.2.2.1.1, d.2.2.2.2.1.1, d.2.2.2.2.1.2.1, d.2.2.2.2.1.2.2.1, d.2.2.2.2.2.1.1)
def e39_0q : Elim fits_move_isShort_L0X := fun base x _ K => K (.exit 0) (stOf base X0_39_0q (((x.1, ()), (), (), (), (), (), (x.2.1, ()), ()), ((x.2.2.1, x.2.2.2.1, x.2.2.2.2.1, ()), (x.2.2.2.2.2.1, x.2.2.2.2.2.2.1, x.2.2.2.2.2.2.2.1, x.2.2.2.2.2.2.2.2.1, ()), (x.2.2.2.2.2.2.2.2.2.1, ()), (x.2.2.2.2.2.2.2.2.2.2.1, x.2.2.2.2.2.2.2.2.2.2.2.1, x.2.2.2.2.2.2.2.2.2.2.2.2.1, ()), (x.2.2.2.2.2.2.2.2.2.2.2.2.2, ()), ())))
def L39_0q : LoopSum := ⟨I39_0q, O39_0q, fits_move_isShort_L0X, fun k d => c39_0q (fits_move_isShort_L0 k k) d, e39_0q⟩
def A39q : Notes := ⟨[], [(7, L39_0q)]⟩
theorem B39q : EnvB E39q := env_n mixed_orders ⟨F33q, F34q, F38q, trivial⟩
theorem st39_0q : StepOK E39q A39q 0 59 (loopAt (bodyOf Proofs.Try.f110) 0) I39_0q O39_0q T39_0q c39_0q fits_move_isShort_L0b := by intro k rec d; kernel_rfl
theorem lk39_0q : LoopOK E39q.P 1000 0 59 (loopAt (bodyOf Proofs.Try.f110) 0) L39_0q := loop_b B39q st39_0q fits_move_isShort_L0 e39_0q (fun _ _ _ => rfl) loops0
def as39q : List AS := [.agg [.dat false (.int .i64), .dat false (.int .i64), .dat false (.sl (.int .i64))], .agg [.dat false y6q, .dat false (.sl (.int .i64)), .dat false (.int .i64), .dat false (.sl (.int .i64))], .c (.int .i64), .c (.dat false y10q)]
def rs39q : RS := .c (.bool)
def pk39q : Bool → RL rs39q.cells := fun x => (x, ())
def up39q : RL rs39q.cells → Bool := fun d => d.1
def s39q (k : Nat) (d : AD as39q) := fits_move_isShort k d.1 d.2.1 d.2.2.1 d.2.2.2.1 d.2.2.2.2.1 d.2.2.2.2.2.1 d.2.2.2.2.2.2.1 d.2.2.2.2.2.2.2.1 d.2.2.2.2.2.2.2.2.1
def R39q : Nat × Entry := (110, fun k nm args h => entry as39q rs39q (s39q k) pk39q nm args h)
theorem ev39q : EvOK E39q A39q 0 Proofs.Try.f110 as39q rs39q up39q s39q := by intro k d; kernel_rfl
theorem F39q : FnOK Proofs.Try.prog R39q := fn_b B39q ev39q (loops1 lk39_0q)

/-! ### giro/fits.Short -/
noncomputable def E40q : Env := ⟨Proofs.Try.prog, fun _ => false, sumsOf [R29q, R32q, R39q]⟩
def I40_0q : Spec := ⟨[(1, .c (.dat false y10q)), (2, .c (.lit (.ptr 1001000 0))), (5, .c (.lit (.ptr 1001001 0))), (6, .c (.lit (.osl 1001005 none))), (16, .c (.int .i64)), (17, .c (.int .i64))], [.box true [.dat false y6q, .dat false (.sl (.int .i64)), .dat false (.int .i64), .dat false (.sl (.int .i64))], .box true [.lit (.osl 1001002 none), .lit (.osl 1001003 none), .lit (.osl 1001004 none)], .arr true (.int .i64), .arr true (.int .i64), .mat, .arr true (.int .i64)], [(6, none, (.int .i64), false)]⟩
def X0_40_0q : Spec := ⟨[(6, .c (.lit (.osl 1001000 none)))], [.arr true (.int .i64)], []⟩
def O40_0q : List (Ex × Spec) := [(.exit 0, X0_40_0q)]
def c40_0q (f : fits_Short_L0T) (d : I40_0q.den) : Option (List Int) := f d.1.1.1 d.1.2.2.2.2.1.1 d.1.2.2.2.2.2.1.1 d.2.1.1 d.2.1.2.1 d.2.1.2.2.1 d.2.1.2.2.2.1 d.2.2.2.1 d.2.2.2.2.1 d.2.2.2.2.2.1 d.2.2.2.2.2.2.1
def T40_0q : OutD O40_0q → (List Int) := fun d => d.2.1
def e40_0q : Elim (List Int) := fun base x _ K => K (.exit 0) (stOf base X0_40_0q (((), ()), (x, ())))
def L40_0q : LoopSum := ⟨I40_0q, O40_0q, (List Int), fun k d => c40_0q (fits_Short_L0 k k) d, e40_0q⟩
def A40q : Notes := ⟨[], [(4, L40_0q)]⟩
theorem B40q : EnvB E40q := env_n mixed_orders ⟨F29q, F32q, F39q, trivial⟩
theorem st40_0q : StepOK E40q A40q 0 37 (loopAt (bodyOf Proofs.Try.f85) 0) I40_0q O40_0q T40_0q c40_0q fits_Short_L0b := by intro k rec d; kernel_rfl
theorem lk40_0q : LoopOK E40q.P 1000 0 37 (loopAt (bodyOf Proofs.Try.f85) 0) L40_0q := loop_b B40q st40_0q fits_Short_L0 e40_0q (fun _ _ _ => rfl) loops0
def as40q : List AS := [.agg [.dat false y6q, .dat false (.sl (.int .i64)), .dat false (.int .i64), .dat false (.sl (.int .i64))], .c (.dat false y10q)]
def rs40q : RS := .c (.own (.int .i64))
def pk40q : List Int → RL rs40q.cells := fun x => (x, ())
def up40q : RL rs40q.cells → List Int := fun d => d.1
def s40q (k : Nat) (d : AD as40q) := fits_Short k d.1 d.2.1 d.2.2.1 d.2.2.2.1 d.2.2.2.2.1
def R40q : Nat × Entry := (85, fun k nm args h => entry as40q rs40q (s40q k) pk40q nm args h)
theorem ev40q : EvOK E40q A40q 0 Proofs.Try.f85 as40q rs40q up40q s40q := by intro k d; kernel_rfl
theorem F40q : FnOK Proofs.Try.prog R40q := fn_b B40q ev40q (loops1 lk40_0q)

/-! ### giro/fits.Fits -/
noncomputable def E41q : Env := ⟨Proofs.Try.prog, fun _ => false, sumsOf [R25q, R40q]⟩
def A41q : Notes := ⟨[], []⟩
theorem B41q : EnvB E41q := env_n mixed_orders ⟨F25q, F40q, trivial⟩
def as41q : List AS := [.agg [.dat false y6q, .dat false (.sl (.int .i64)), .dat false (.int .i64), .dat false (.sl (.int .i64))], .c (.dat false y10q)]
def rs41q : RS := .c (.bool)
def pk41q : Bool → RL rs41q.cells := fun x => (x, ())
def up41q : RL rs41q.cells → Bool := fun d => d.1
def s41q (k : Nat) (d : AD as41q) := fits_Fits k d.1 d.2.1 d.2.2.1 d.2.2.2.1 d.2.2.2.2.1
def R41q : Nat × Entry := (106, fun k nm args h => entry as41q rs41q (s41q k) pk41q nm args h)
theorem ev41q : EvOK E41q A41q 0 Proofs.Try.f106 as41q rs41q up41q s41q := by intro k d; kernel_rfl
theorem F41q : FnOK Proofs.Try.prog R41q := fn_0 B41q ev41q

/-! ### giro/post.Post$1 -/
noncomputable def E42q : Env := ⟨Proofs.Try.prog, fun _ => false, sumsOf [R22q]⟩
def A42q : Notes := ⟨[], []⟩
theorem B42q : EnvB E42q := env_n mixed_orders ⟨F22q, trivial⟩
def as42q : List AS := [.agg [.int .i64, .int .i64, .int .i64, .int .i64, .int .i64, .int .i64, .int .i64], .ptr [.dat false y6q, .dat false (.sl (.int .i64)), .dat false (.int .i64), .dat false (.sl (.int .i64))]]
def rs42q : RS := .c (.bool)
def pk42q : Bool → RL rs42q.cells := fun x => (x, ())
def up42q : RL rs42q.cells → Bool := fun d => d.1
def s42q (k : Nat) (d : AD as42q) := post_Post_fn1 k d.1 d.2.1 d.2.2.1 d.2.2.2.1 d.2.2.2.2.1 d.2.2.2.2.2.1 d.2.2.2.2.2.2.1 d.2.2.2.2.2.2.2.1 d.2.2.2.2.2.2.2.2.1 d.2.2.2.2.2.2.2.2.2.1 d.2.2.2.2.2.2.2.2.2.2.1
def R42q : Nat × Entry := (91, fun k nm args h => entry as42q rs42q (s42q k) pk42q nm args h)
theorem ev42q : EvOK E42q A42q 0 Proofs.Try.f91 as42q rs42q up42q s42q := by intro k d; kernel_rfl
theorem F42q : FnOK Proofs.Try.prog R42q := fn_0 B42q ev42q

/-! ### slices.IndexFunc[[]giro/api.Pay,giro/api.Pay] -/
noncomputable def E43q : Env := ⟨Proofs.Try.prog, fun _ => false, sumsOf [R42q]⟩
def I43_0q : Spec := ⟨[(0, .c (.dat false y10q)), (1, .c (.lit (.fn 91 [1001000]))), (7, .c (.int .i64)), (8, .c (.int .i64))], [.robox [.dat false y6q, .dat false (.sl (.int .i64)), .dat false (.int .i64), .dat false (.sl (.int .i64))]], []⟩
def X0_43_0q : Spec := ⟨[], [], []⟩
def X1_43_0q : Spec := ⟨[(4, .c (.int .i64))], [], []⟩
def O43_0q : List (Ex × Spec) := [(.exit 0, X0_43_0q), (.ret, X1_43_0q)]
def c43_0q (f : slices_IndexFunc_Pay__post_Post_fn1_L0T) (d : I43_0q.den) : Option (Unit ⊕ Int) := f d.1.1.1 d.1.2.2.1.1 d.1.2.2.2.1.1 d.2.1.1 d.2.1.2.1 d.2.1.2.2.1 d.2.1.2.2.2.1
def T43_0q : OutD O43_0q → (Unit ⊕ Int)
 | .inl d => .inl ()
 | .inr d => .inr d.1.1.1
def e43_0q : Elim (Unit ⊕ Int) := fun base x _ K => match x with
 | .inl x => K (.exit 0) (stOf base X0_43_0q ((), ()))
 | .inr x => K .ret (stOf base X1_43_0q (((x, ()), ()), ()))
def L43_0q : LoopSum := ⟨I43_0q, O43_0q, (Unit ⊕ Int), fun k d => c43_0q (slices_IndexFunc_Pay__post_Post_fn1_L0 k k) d, e43_0q⟩
def A43q : Notes := ⟨[], [(2, L43_0q)]⟩
theorem B43q : EnvB E43q := env_n mixed_orders ⟨F42q, trivial⟩
theorem st43_0q : StepOK E43q A43q 0 19 (loopAt (bodyOf Proofs.Try.f104) 0) I43_0q O43_0q T43_0q c43_0q slices_IndexFunc_Pay__post_Post_fn1_L0b := by intro k rec d; kernel_rfl
theorem lk43_0q : LoopOK E43q.P 1000 0 19 (loopAt (bodyOf Proofs.Try.f104) 0) L43_0q := loop_b B43q st43_0q slices_IndexFunc_Pay__post_Post_fn1_L0 e43_0q (by intro o R K; rcases o with o | o <;> rfl) loops0
def as43q : List AS := [.c (.dat false y10q), .fn 91 [[.dat false y6q, .dat false (.sl (.int .i64)), .dat false (.int .i64), .dat false (.sl (.int .i64))]]]
def rs43q : RS := .c (.int .i64)
def pk43q : Int → RL rs43q.cells := fun x => (x, ())
def up43q : RL rs43q.cells → Int := fun d => d.1
def s43q (k : Nat) (d : AD as43q) := slices_IndexFunc_Pay__post_Post_fn1 k d.1 d.2.1 d.2.2.1 d.2.2.2.1 d.2.2.2.2.1
def R43q : Nat × Entry := (104, fun k nm args h => entry as43q rs43q (s43q k) pk43q nm args h)
theorem ev43q : EvOK E43q A43q 0 Proofs.Try.f104 as43q rs43q up43q s43q := by intro k d; kernel_rfl
theorem F43q : FnOK Proofs.Try.prog R43q := fn_b B43q ev43q (loops1 lk43_0q)

/-! ### slices.ContainsFunc[[]giro/api.Pay,giro/api.Pay] -/
noncomputable def E44q : Env := ⟨Proofs.Try.prog, fun _ => false, sumsOf [R43q]⟩
def A44q : Notes := ⟨[], []⟩
theorem B44q : EnvB E44q := env_n mixed_orders ⟨F43q, trivial⟩
def as44q : List AS := [.c (.dat false y10q), .fn 91 [[.dat false y6q, .dat false (.sl (.int .i64)), .dat false (.int .i64), .dat false (.sl (.int .i64))]]]
def rs44q : RS := .c (.bool)
def pk44q : Bool → RL rs44q.cells := fun x => (x, ())
def up44q : RL rs44q.cells → Bool := fun d => d.1
def s44q (k : Nat) (d : AD as44q) := slices_ContainsFunc_Pay__post_Post_fn1 k d.1 d.2.1 d.2.2.1 d.2.2.2.1 d.2.2.2.2.1
def R44q : Nat × Entry := (81, fun k nm args h => entry as44q rs44q (s44q k) pk44q nm args h)
theorem ev44q : EvOK E44q A44q 0 Proofs.Try.f81 as44q rs44q up44q s44q := by intro k d; kernel_rfl
theorem F44q : FnOK Proofs.Try.prog R44q := fn_0 B44q ev44q

/-! ### slices.Clone[[]giro/api.Acct,giro/api.Acct] -/
noncomputable def E45q : Env := ⟨Proofs.Try.prog, fun _ => false, sumsOf []⟩
def A45q : Notes := ⟨[], []⟩
theorem B45q : EnvB E45q := env_n mixed_orders trivial
def as45q : List AS := [.c (.dat false y6q)]
def rs45q : RS := .c (.own y6q)
def pk45q : List K4q → RL rs45q.cells := fun x => (x, ())
def up45q : RL rs45q.cells → List K4q := fun d => d.1
def s45q (k : Nat) (d : AD as45q) := slices_Clone_Acct k d.1
def R45q : Nat × Entry := (111, fun k nm args h => entry as45q rs45q (fun d => slices_Clone_Acct k d.1) pk45q nm args h)
theorem nil45q (k : Nat) : evF E45q A45q k 1000 0 Proofs.Try.f111 [.c .nsl] (boxHp []) (outM rs45q up45q) = slices_Clone_Acct k [] := by kernel_rfl
theorem ev45q (k : Nat) (xs : List K4q) : evF E45q A45q k 1000 0 Proofs.Try.f111 [.c (.nfl false y6q xs)] (boxHp []) (outM rs45q up45q) = slices_Clone_Acct k xs := by kernel_rfl
theorem F45q : FnOK Proofs.Try.prog R45q := fn_nil (t := y6q) (S := slices_Clone_Acct) (unpack := up45q) B45q nil45q ev45q loops0

/-! ### slices.Clone[[][]int64,[]int64] -/
noncomputable def E46q : Env := ⟨Proofs.Try.prog, fun _ => false, sumsOf []⟩
def A46q : Notes := ⟨[], []⟩
theorem B46q : EnvB E46q := env_n mixed_orders trivial
def as46q : List AS := [.c (.dat true (.sl (.int .i64)))]
def rs46q : RS := .c (.jun)
def pk46q : Nat → RL rs46q.cells := fun x => (x, ())
def up46q : RL rs46q.cells → Nat := fun d => d.1
def s46q (k : Nat) (d : AD as46q) := slices_Clone_Rowint64 k d.1
def R46q : Nat × Entry := (128, fun k nm args h => entry as46q rs46q (fun d => slices_Clone_Rowint64 k d.1) pk46q nm args h)
theorem nil46q (k : Nat) : evF E46q A46q k 1000 0 Proofs.Try.f128 [.c .nsl] (boxHp []) (outM rs46q up46q) = slices_Clone_Rowint64 k [] := by kernel_rfl
theorem ev46q (k : Nat) (xs : List (List Int)) : evF E46q A46q k 1000 0 Proofs.Try.f128 [.c (.nfl true (.sl (.int .i64)) xs)] (boxHp []) (outM rs46q up46q) = slices_Clone_Rowint64 k xs := by kernel_rfl
theorem F46q : FnOK Proofs.Try.prog R46q := fn_nil (t := (.sl (.int .i64))) (S := slices_Clone_Rowint64) (unpack := up46q) B46q nil46q ev46q loops0

/-! ### slices.Clone[[]int64,int64] -/
noncomputable def E47q : Env := ⟨Proofs.Try.prog, fun _ => false, sumsOf []⟩
def A47q : Notes := ⟨[], []⟩
theorem B47q : EnvB E47q := env_n mixed_orders trivial
def as47q : List AS := [.c (.dat false (.int .i64))]
def rs47q : RS := .c (.own (.int .i64))
def pk47q : List Int → RL rs47q.cells := fun x => (x, ())
def up47q : RL rs47q.cells → List Int := fun d => d.1
def s47q (k : Nat) (d : AD as47q) := slices_Clone_int64 k d.1
def R47q : Nat × Entry := (113, fun k nm args h => entry as47q rs47q (fun d => slices_Clone_int64 k d.1) pk47q nm args h)
theorem nil47q (k : Nat) : evF E47q A47q k 1000 0 Proofs.Try.f113 [.c .nsl] (boxHp []) (outM rs47q up47q) = slices_Clone_int64 k [] := by kernel_rfl
theorem ev47q (k : Nat) (xs : List Int) : evF E47q A47q k 1000 0 Proofs.Try.f113 [.c (.nfl false (.int .i64) xs)] (boxHp []) (outM rs47q up47q) = slices_Clone_int64 k xs := by kernel_rfl
theorem F47q : FnOK Proofs.Try.prog R47q := fn_nil (t := (.int .i64)) (S := slices_Clone_int64) (unpack := up47q) B47q nil47q ev47q loops0

/-! ### giro/lim.copied -/
noncomputable def E48q : Env := ⟨Proofs.Try.prog, fun _ => false, sumsOf [R46q, R47q]⟩
def I48_0q : Spec := ⟨[(3, .c (.lit (.osl 1001000 none))), (8, .c (.dat true (.sl (.int .i64)))), (9, .c (.int .i64)), (10, .c (.int .i64))], [.pmat], []⟩
def X0_48_0q : Spec := ⟨[(3, .c (.lit (.osl 1001000 none)))], [.pmat], []⟩
def O48_0q : List (Ex × Spec) := [(.exit 0, X0_48_0q)]
def c48_0q (f : lim_copied_L0T) (d : I48_0q.den) : Option ((List (List Int)) × Nat) := f d.1.2.1.1 d.1.2.2.1.1 d.1.2.2.2.1.1 d.2.1.1 d.2.1.2
def T48_0q : OutD O48_0q → ((List (List Int)) × Nat) := fun d => (d.2.1.1, d.2.1.2)
def e48_0q : Elim ((List (List Int)) × Nat) := fun base x _ K => K (.exit 0) (stOf base X0_48_0q (((), ()), ((x.1, x.2), ())))
def L48_0q : LoopSum := ⟨I48_0q, O48_0q, ((List (List Int)) × Nat), fun k d => c48_0q (lim_copied_L0 k k) d, e48_0q⟩
def A48q : Notes := ⟨[], [(3, L48_0q)]⟩
theorem B48q : EnvB E48q := env_n mixed_orders ⟨F46q, F47q, trivial⟩
theorem st48_0q : StepOK E48q A48q 0 22 (loopAt (bodyOf Proofs.Try.f112) 0) I48_0q O48_0q T48_0q c48_0q lim_copied_L0b := by intro k rec d; kernel_rfl
theorem lk48_0q : LoopOK E48q.P 1000 0 22 (loopAt (bodyOf Proofs.Try.f112) 0) L48_0q := loop_b B48q st48_0q lim_copied_L0 e48_0q (fun _ _ _ => rfl) loops0
def as48q : List AS := [.c (.dat true (.sl (.int .i64)))]
def rs48q : RS := .c (.mat)
def pk48q : List (List Int) → RL rs48q.cells := fun x => (x, ())
def up48q : RL rs48q.cells → List (List Int) := fun d => d.1
def s48q (k : Nat) (d : AD as48q) := lim_copied k d.1
def R48q : Nat × Entry := (112, fun k nm args h => entry as48q rs48q (s48q k) pk48q nm args h)
theorem ev48q : EvOK E48q A48q 0 Proofs.Try.f112 as48q rs48q up48q s48q := by intro k d; kernel_rfl
theorem F48q : FnOK Proofs.Try.prog R48q := fn_b B48q ev48q (loops1 lk48_0q)

/-! ### giro/lim.Copy -/
noncomputable def E49q : Env := ⟨Proofs.Try.prog, fun _ => false, sumsOf [R45q, R48q, R47q]⟩
def A49q : Notes := ⟨[], []⟩
theorem B49q : EnvB E49q := env_n mixed_orders ⟨F45q, F48q, F47q, trivial⟩
def as49q : List AS := [.agg [.dat false y6q, .dat true (.sl (.int .i64)), .dat false (.int .i64), .dat true (.sl (.int .i64))]]
def rs49q : RS := .agg [.own y6q, .mat, .own (.int .i64), .mat]
def pk49q : (List K4q) × (List (List Int)) × (List Int) × (List (List Int)) → RL rs49q.cells := fun x => (x.1, x.2.1, x.2.2.1, x.2.2.2, ())
def up49q : RL rs49q.cells → (List K4q) × (List (List Int)) × (List Int) × (List (List Int)) := fun d => (d.1, d.2.1, d.2.2.1, d.2.2.2.1)
def s49q (k : Nat) (d : AD as49q) := lim_Copy k d.1 d.2.1 d.2.2.1 d.2.2.2.1
def R49q : Nat × Entry := (92, fun k nm args h => entry as49q rs49q (s49q k) pk49q nm args h)
theorem ev49q : EvOK E49q A49q 0 Proofs.Try.f92 as49q rs49q up49q s49q := by intro k d; kernel_rfl
theorem F49q : FnOK Proofs.Try.prog R49q := fn_0 B49q ev49q

/-! ### giro/acct.Is -/
noncomputable def E50q : Env := ⟨Proofs.Try.prog, fun _ => false, sumsOf []⟩
def A50q : Notes := ⟨[], []⟩
theorem B50q : EnvB E50q := env_n mixed_orders trivial
def as50q : List AS := [.agg [.int .i64, .int .i64, .int .i64]]
def rs50q : RS := .c (.bool)
def pk50q : Bool → RL rs50q.cells := fun x => (x, ())
def up50q : RL rs50q.cells → Bool := fun d => d.1
def s50q (k : Nat) (d : AD as50q) := acct_Is k d.1 d.2.1 d.2.2.1
def R50q : Nat × Entry := (65, fun k nm args h => entry as50q rs50q (s50q k) pk50q nm args h)
theorem ev50q : EvOK E50q A50q 0 Proofs.Try.f65 as50q rs50q up50q s50q := by intro k d; kernel_rfl
theorem F50q : FnOK Proofs.Try.prog R50q := fn_0 B50q ev50q

/-! ### giro/lim.Is$1 -/
noncomputable def E51q : Env := ⟨Proofs.Try.prog, fun _ => false, sumsOf [R50q]⟩
def A51q : Notes := ⟨[], []⟩
theorem B51q : EnvB E51q := env_n mixed_orders ⟨F50q, trivial⟩
def as51q : List AS := [.agg [.int .i64, .int .i64, .int .i64]]
def rs51q : RS := .c (.bool)
def pk51q : Bool → RL rs51q.cells := fun x => (x, ())
def up51q : RL rs51q.cells → Bool := fun d => d.1
def s51q (k : Nat) (d : AD as51q) := lim_Is_fn1 k d.1 d.2.1 d.2.2.1
def R51q : Nat × Entry := (64, fun k nm args h => entry as51q rs51q (s51q k) pk51q nm args h)
theorem ev51q : EvOK E51q A51q 0 Proofs.Try.f64 as51q rs51q up51q s51q := by intro k d; kernel_rfl
theorem F51q : FnOK Proofs.Try.prog R51q := fn_0 B51q ev51q

/-! ### slices.IndexFunc[[]giro/api.Acct,giro/api.Acct] -/
noncomputable def E52q : Env := ⟨Proofs.Try.prog, fun _ => false, sumsOf [R51q]⟩
def I52_0q : Spec := ⟨[(0, .c (.dat false y6q)), (1, .c (.lit (.fn 64 []))), (7, .c (.int .i64)), (8, .c (.int .i64))], [], []⟩
def X0_52_0q : Spec := ⟨[], [], []⟩
def X1_52_0q : Spec := ⟨[(4, .c (.int .i64))], [], []⟩
def O52_0q : List (Ex × Spec) := [(.exit 0, X0_52_0q), (.ret, X1_52_0q)]
def c52_0q (f : slices_IndexFunc_Acct__lim_Is_fn1_L0T) (d : I52_0q.den) : Option (Unit ⊕ Int) := f d.1.1.1 d.1.2.2.1.1 d.1.2.2.2.1.1
def T52_0q : OutD O52_0q → (Unit ⊕ Int)
 | .inl d => .inl ()
 | .inr d => .inr d.1.1.1
def e52_0q : Elim (Unit ⊕ Int) := fun base x _ K => match x with
 | .inl x => K (.exit 0) (stOf base X0_52_0q ((), ()))
 | .inr x => K .ret (stOf base X1_52_0q (((x, ()), ()), ()))
def L52_0q : LoopSum := ⟨I52_0q, O52_0q, (Unit ⊕ Int), fun k d => c52_0q (slices_IndexFunc_Acct__lim_Is_fn1_L0 k k) d, e52_0q⟩
def A52q : Notes := ⟨[], [(2, L52_0q)]⟩
theorem B52q : EnvB E52q := env_n mixed_orders ⟨F51q, trivial⟩
theorem st52_0q : StepOK E52q A52q 0 19 (loopAt (bodyOf Proofs.Try.f97) 0) I52_0q O52_0q T52_0q c52_0q slices_IndexFunc_Acct__lim_Is_fn1_L0b := by intro k rec d; kernel_rfl
theorem lk52_0q : LoopOK E52q.P 1000 0 19 (loopAt (bodyOf Proofs.Try.f97) 0) L52_0q := loop_b B52q st52_0q slices_IndexFunc_Acct__lim_Is_fn1_L0 e52_0q (by intro o R K; rcases o with o | o <;> rfl) loops0
def as52q : List AS := [.c (.dat false y6q), .c (.fn 64)]
def rs52q : RS := .c (.int .i64)
def pk52q : Int → RL rs52q.cells := fun x => (x, ())
def up52q : RL rs52q.cells → Int := fun d => d.1
def s52q (k : Nat) (d : AD as52q) := slices_IndexFunc_Acct__lim_Is_fn1 k d.1
def R52q : Nat × Entry := (97, fun k nm args h => entry as52q rs52q (s52q k) pk52q nm args h)
theorem ev52q : EvOK E52q A52q 0 Proofs.Try.f97 as52q rs52q up52q s52q := by intro k d; kernel_rfl
theorem F52q : FnOK Proofs.Try.prog R52q := fn_b B52q ev52q (loops1 lk52_0q)

/-! ### slices.ContainsFunc[[]giro/api.Acct,giro/api.Acct] -/
noncomputable def E53q : Env := ⟨Proofs.Try.prog, fun _ => false, sumsOf [R52q]⟩
def A53q : Notes := ⟨[], []⟩
theorem B53q : EnvB E53q := env_n mixed_orders ⟨F52q, trivial⟩
def as53q : List AS := [.c (.dat false y6q), .c (.fn 64)]
def rs53q : RS := .c (.bool)
def pk53q : Bool → RL rs53q.cells := fun x => (x, ())
def up53q : RL rs53q.cells → Bool := fun d => d.1
def s53q (k : Nat) (d : AD as53q) := slices_ContainsFunc_Acct__lim_Is_fn1 k d.1
def R53q : Nat × Entry := (66, fun k nm args h => entry as53q rs53q (s53q k) pk53q nm args h)
theorem ev53q : EvOK E53q A53q 0 Proofs.Try.f66 as53q rs53q up53q s53q := by intro k d; kernel_rfl
theorem F53q : FnOK Proofs.Try.prog R53q := fn_0 B53q ev53q

/-! ### giro/lim.isLimit -/
noncomputable def E54q : Env := ⟨Proofs.Try.prog, fun _ => false, sumsOf []⟩
def A54q : Notes := ⟨[], []⟩
theorem B54q : EnvB E54q := env_n mixed_orders trivial
def as54q : List AS := [.c (.int .i64)]
def rs54q : RS := .c (.bool)
def pk54q : Bool → RL rs54q.cells := fun x => (x, ())
def up54q : RL rs54q.cells → Bool := fun d => d.1
def s54q (k : Nat) (d : AD as54q) := lim_isLimit k d.1
def R54q : Nat × Entry := (68, fun k nm args h => entry as54q rs54q (s54q k) pk54q nm args h)
theorem ev54q : EvOK E54q A54q 0 Proofs.Try.f68 as54q rs54q up54q s54q := by intro k d; kernel_rfl
theorem F54q : FnOK Proofs.Try.prog R54q := fn_0 B54q ev54q

/-! ### giro/lim.isRow$1 -/
noncomputable def E55q : Env := ⟨Proofs.Try.prog, fun _ => false, sumsOf [R54q]⟩
def A55q : Notes := ⟨[], []⟩
theorem B55q : EnvB E55q := env_n mixed_orders ⟨F54q, trivial⟩
def as55q : List AS := [.c (.int .i64), .ptr [.fn 68]]
def rs55q : RS := .c (.bool)
def pk55q : Bool → RL rs55q.cells := fun x => (x, ())
def up55q : RL rs55q.cells → Bool := fun d => d.1
def s55q (k : Nat) (d : AD as55q) := lim_isRow_fn1__lim_isLimit k d.1
def R55q : Nat × Entry := (98, fun k nm args h => entry as55q rs55q (s55q k) pk55q nm args h)
theorem ev55q : EvOK E55q A55q 0 Proofs.Try.f98 as55q rs55q up55q s55q := by intro k d; kernel_rfl
theorem F55q : FnOK Proofs.Try.prog R55q := fn_0 B55q ev55q

/-! ### slices.IndexFunc[[]int64,int64] -/
noncomputable def E56q : Env := ⟨Proofs.Try.prog, fun _ => false, sumsOf [R55q]⟩
def I56_0q : Spec := ⟨[(0, .c (.dat false (.int .i64))), (1, .c (.lit (.fn 98 [1001000]))), (7, .c (.int .i64)), (8, .c (.int .i64))], [.robox [.lit (.fn 68 [])]], []⟩
def X0_56_0q : Spec := ⟨[], [], []⟩
def X1_56_0q : Spec := ⟨[(4, .c (.int .i64))], [], []⟩
def O56_0q : List (Ex × Spec) := [(.exit 0, X0_56_0q), (.ret, X1_56_0q)]
def c56_0q (f : slices_IndexFunc_int64__lim_isRow_fn1__lim_isLimit_L0T) (d : I56_0q.den) : Option (Unit ⊕ Int) := f d.1.1.1 d.1.2.2.1.1 d.1.2.2.2.1.1
def T56_0q : OutD O56_0q → (Unit ⊕ Int)
 | .inl d => .inl ()
 | .inr d => .inr d.1.1.1
def e56_0q : Elim (Unit ⊕ Int) := fun base x _ K => match x with
 | .inl x => K (.exit 0) (stOf base X0_56_0q ((), ()))
 | .inr x => K .ret (stOf base X1_56_0q (((x, ()), ()), ()))
def L56_0q : LoopSum := ⟨I56_0q, O56_0q, (Unit ⊕ Int), fun k d => c56_0q (slices_IndexFunc_int64__lim_isRow_fn1__lim_isLimit_L0 k k) d, e56_0q⟩
def A56q : Notes := ⟨[], [(2, L56_0q)]⟩
theorem B56q : EnvB E56q := env_n mixed_orders ⟨F55q, trivial⟩
theorem st56_0q : StepOK E56q A56q 0 19 (loopAt (bodyOf Proofs.Try.f99) 0) I56_0q O56_0q T56_0q c56_0q slices_IndexFunc_int64__lim_isRow_fn1__lim_isLimit_L0b := by intro k rec d; kernel_rfl
theorem lk56_0q : LoopOK E56q.P 1000 0 19 (loopAt (bodyOf Proofs.Try.f99) 0) L56_0q := loop_b B56q st56_0q slices_IndexFunc_int64__lim_isRow_fn1__lim_isLimit_L0 e56_0q (by intro o R K; rcases o with o | o <;> rfl) loops0
def as56q : List AS := [.c (.dat false (.int .i64)), .fn 98 [[.fn 68]]]
def rs56q : RS := .c (.int .i64)
def pk56q : Int → RL rs56q.cells := fun x => (x, ())
def up56q : RL rs56q.cells → Int := fun d => d.1
def s56q (k : Nat) (d : AD as56q) := slices_IndexFunc_int64__lim_isRow_fn1__lim_isLimit k d.1
def R56q : Nat × Entry := (99, fun k nm args h => entry as56q rs56q (s56q k) pk56q nm args h)
theorem ev56q : EvOK E56q A56q 0 Proofs.Try.f99 as56q rs56q up56q s56q := by intro k d; kernel_rfl
theorem F56q : FnOK Proofs.Try.prog R56q := fn_b B56q ev56q (loops1 lk56_0q)

/-! ### slices.ContainsFunc[[]int64,int64] -/
noncomputable def E57q : Env := ⟨Proofs.Try.prog, fun _ => false, sumsOf [R56q]⟩
def A57q : Notes := ⟨[], []⟩
theorem B57q : EnvB E57q := env_n mixed_orders ⟨F56q, trivial⟩
def as57q : List AS := [.c (.dat false (.int .i64)), .fn 98 [[.fn 68]]]
def rs57q : RS := .c (.bool)
def pk57q : Bool → RL rs57q.cells := fun x => (x, ())
def up57q : RL rs57q.cells → Bool := fun d => d.1
def s57q (k : Nat) (d : AD as57q) := slices_ContainsFunc_int64__lim_isRow_fn1__lim_isLimit k d.1
def R57q : Nat × Entry := (72, fun k nm args h => entry as57q rs57q (s57q k) pk57q nm args h)
theorem ev57q : EvOK E57q A57q 0 Proofs.Try.f72 as57q rs57q up57q s57q := by intro k d; kernel_rfl
theorem F57q : FnOK Proofs.Try.prog R57q := fn_0 B57q ev57q

/-! ### giro/lim.isRow -/
noncomputable def E58q : Env := ⟨Proofs.Try.prog, fun _ => false, sumsOf [R57q]⟩
def A58q : Notes := ⟨[], []⟩
theorem B58q : EnvB E58q := env_n mixed_orders ⟨F57q, trivial⟩
def as58q : List AS := [.c (.dat false (.int .i64)), .c (.int .i64), .c (.fn 68)]
def rs58q : RS := .c (.bool)
def pk58q : Bool → RL rs58q.cells := fun x => (x, ())
def up58q : RL rs58q.cells → Bool := fun d => d.1
def s58q (k : Nat) (d : AD as58q) := lim_isRow__lim_isLimit k d.1 d.2.1
def R58q : Nat × Entry := (69, fun k nm args h => entry as58q rs58q (s58q k) pk58q nm args h)
theorem ev58q : EvOK E58q A58q 0 Proofs.Try.f69 as58q rs58q up58q s58q := by intro k d; kernel_rfl
theorem F58q : FnOK Proofs.Try.prog R58q := fn_0 B58q ev58q

/-! ### giro/lim.isSquare -/
noncomputable def E59q : Env := ⟨Proofs.Try.prog, fun _ => false, sumsOf [R58q]⟩
def I59_0q : Spec := ⟨[(1, .c (.int .i64)), (2, .c (.lit (.fn 68 []))), (13, .c (.dat false (.sl (.int .i64)))), (14, .c (.int .i64)), (15, .c (.int .i64))], [], []⟩
def X0_59_0q : Spec := ⟨[], [], []⟩
def X1_59_0q : Spec := ⟨[(6, .c (.bool))], [], []⟩
def O59_0q : List (Ex × Spec) := [(.exit 0, X0_59_0q), (.ret, X1_59_0q)]
def c59_0q (f : lim_isSquare__lim_isLimit_L0T) (d : I59_0q.den) : Option (Unit ⊕ Bool) := f d.1.1.1 d.1.2.2.1.1 d.1.2.2.2.1.1 d.1.2.2.2.2.1.1
def T59_0q : OutD O59_0q → (Unit ⊕ Bool)
 | .inl d => .inl ()
 | .inr d => .inr d.1.1.1
def e59_0q : Elim (Unit ⊕ Bool) := fun base x _ K => match x with
 | .inl x => K (.exit 0) (stOf base X0_59_0q ((), ()))
 | .inr x => K .ret (stOf base X1_59_0q (((x, ()), ()), ()))
def L59_0q : LoopSum := ⟨I59_0q, O59_0q, (Unit ⊕ Bool), fun k d => c59_0q (lim_isSquare__lim_isLimit_L0 k k) d, e59_0q⟩
def A59q : Notes := ⟨[], [(4, L59_0q)]⟩
theorem B59q : EnvB E59q := env_n mixed_orders ⟨F58q, trivial⟩
theorem st59_0q : StepOK E59q A59q 0 25 (loopAt (bodyOf Proofs.Try.f67) 0) I59_0q O59_0q T59_0q c59_0q lim_isSquare__lim_isLimit_L0b := by intro k rec d; kernel_rfl
theorem lk59_0q : LoopOK E59q.P 1000 0 25 (loopAt (bodyOf Proofs.Try.f67) 0) L59_0q := loop_b B59q st59_0q lim_isSquare__lim_isLimit_L0 e59_0q (by intro o R K; rcases o with o | o <;> rfl) loops0
def as59q : List AS := [.c (.dat false (.sl (.int .i64))), .c (.int .i64), .c (.fn 68)]
def rs59q : RS := .c (.bool)
def pk59q : Bool → RL rs59q.cells := fun x => (x, ())
def up59q : RL rs59q.cells → Bool := fun d => d.1
def s59q (k : Nat) (d : AD as59q) := lim_isSquare__lim_isLimit k d.1 d.2.1
def R59q : Nat × Entry := (67, fun k nm args h => entry as59q rs59q (s59q k) pk59q nm args h)
theorem ev59q : EvOK E59q A59q 0 Proofs.Try.f67 as59q rs59q up59q s59q := by intro k d; kernel_rfl
theorem F59q : FnOK Proofs.Try.prog R59q := fn_b B59q ev59q (loops1 lk59_0q)

/-! ### giro/lim.isNet -/
noncomputable def E60q : Env := ⟨Proofs.Try.prog, fun _ => false, sumsOf []⟩
def A60q : Notes := ⟨[], []⟩
theorem B60q : EnvB E60q := env_n mixed_orders trivial
def as60q : List AS := [.c (.int .i64)]
def rs60q : RS := .c (.bool)
def pk60q : Bool → RL rs60q.cells := fun x => (x, ())
def up60q : RL rs60q.cells → Bool := fun d => d.1
def s60q (k : Nat) (d : AD as60q) := lim_isNet k d.1
def R60q : Nat × Entry := (70, fun k nm args h => entry as60q rs60q (s60q k) pk60q nm args h)
theorem ev60q : EvOK E60q A60q 0 Proofs.Try.f70 as60q rs60q up60q s60q := by intro k d; kernel_rfl
theorem F60q : FnOK Proofs.Try.prog R60q := fn_0 B60q ev60q

/-! ### giro/lim.isRow$1 -/
noncomputable def E61q : Env := ⟨Proofs.Try.prog, fun _ => false, sumsOf [R60q]⟩
def A61q : Notes := ⟨[], []⟩
theorem B61q : EnvB E61q := env_n mixed_orders ⟨F60q, trivial⟩
def as61q : List AS := [.c (.int .i64), .ptr [.fn 70]]
def rs61q : RS := .c (.bool)
def pk61q : Bool → RL rs61q.cells := fun x => (x, ())
def up61q : RL rs61q.cells → Bool := fun d => d.1
def s61q (k : Nat) (d : AD as61q) := lim_isRow_fn1__lim_isNet k d.1
def R61q : Nat × Entry := (98, fun k nm args h => entry as61q rs61q (s61q k) pk61q nm args h)
theorem ev61q : EvOK E61q A61q 0 Proofs.Try.f98 as61q rs61q up61q s61q := by intro k d; kernel_rfl
theorem F61q : FnOK Proofs.Try.prog R61q := fn_0 B61q ev61q

/-! ### slices.IndexFunc[[]int64,int64] -/
noncomputable def E62q : Env := ⟨Proofs.Try.prog, fun _ => false, sumsOf [R61q]⟩
def I62_0q : Spec := ⟨[(0, .c (.dat false (.int .i64))), (1, .c (.lit (.fn 98 [1001000]))), (7, .c (.int .i64)), (8, .c (.int .i64))], [.robox [.lit (.fn 70 [])]], []⟩
def X0_62_0q : Spec := ⟨[], [], []⟩
def X1_62_0q : Spec := ⟨[(4, .c (.int .i64))], [], []⟩
def O62_0q : List (Ex × Spec) := [(.exit 0, X0_62_0q), (.ret, X1_62_0q)]
def c62_0q (f : slices_IndexFunc_int64__lim_isRow_fn1__lim_isNet_L0T) (d : I62_0q.den) : Option (Unit ⊕ Int) := f d.1.1.1 d.1.2.2.1.1 d.1.2.2.2.1.1
def T62_0q : OutD O62_0q → (Unit ⊕ Int)
 | .inl d => .inl ()
 | .inr d => .inr d.1.1.1
def e62_0q : Elim (Unit ⊕ Int) := fun base x _ K => match x with
 | .inl x => K (.exit 0) (stOf base X0_62_0q ((), ()))
 | .inr x => K .ret (stOf base X1_62_0q (((x, ()), ()), ()))
def L62_0q : LoopSum := ⟨I62_0q, O62_0q, (Unit ⊕ Int), fun k d => c62_0q (slices_IndexFunc_int64__lim_isRow_fn1__lim_isNet_L0 k k) d, e62_0q⟩
def A62q : Notes := ⟨[], [(2, L62_0q)]⟩
theorem B62q : EnvB E62q := env_n mixed_orders ⟨F61q, trivial⟩
theorem st62_0q : StepOK E62q A62q 0 19 (loopAt (bodyOf Proofs.Try.f99) 0) I62_0q O62_0q T62_0q c62_0q slices_IndexFunc_int64__lim_isRow_fn1__lim_isNet_L0b := by intro k rec d; kernel_rfl
theorem lk62_0q : LoopOK E62q.P 1000 0 19 (loopAt (bodyOf Proofs.Try.f99) 0) L62_0q := loop_b B62q st62_0q slices_IndexFunc_int64__lim_isRow_fn1__lim_isNet_L0 e62_0q (by intro o R K; rcases o with o | o <;> rfl) loops0
def as62q : List AS := [.c (.dat false (.int .i64)), .fn 98 [[.fn 70]]]
def rs62q : RS := .c (.int .i64)
def pk62q : Int → RL rs62q.cells := fun x => (x, ())
def up62q : RL rs62q.cells → Int := fun d => d.1
def s62q (k : Nat) (d : AD as62q) := slices_IndexFunc_int64__lim_isRow_fn1__lim_isNet k d.1
def R62q : Nat × Entry := (99, fun k nm args h => entry as62q rs62q (s62q k) pk62q nm args h)
theorem ev62q : EvOK E62q A62q 0 Proofs.Try.f99 as62q rs62q up62q s62q := by intro k d; kernel_rfl
theorem F62q : FnOK Proofs.Try.prog R62q := fn_b B62q ev62q (loops1 lk62_0q)

/-! ### slices.ContainsFunc[[]int64,int64] -/
noncomputable def E63q : Env := ⟨Proofs.Try.prog, fun _ => false, sumsOf [R62q]⟩
def A63q : Notes := ⟨[], []⟩
theorem B63q : EnvB E63q := env_n mixed_orders ⟨F62q, trivial⟩
def as63q : List AS := [.c (.dat false (.int .i64)), .fn 98 [[.fn 70]]]
def rs63q : RS := .c (.bool)
def pk63q : Bool → RL rs63q.cells := fun x => (x, ())
def up63q : RL rs63q.cells → Bool := fun d => d.1
def s63q (k : Nat) (d : AD as63q) := slices_ContainsFunc_int64__lim_isRow_fn1__lim_isNet k d.1
def R63q : Nat × Entry := (72, fun k nm args h => entry as63q rs63q (s63q k) pk63q nm args h)
theorem ev63q : EvOK E63q A63q 0 Proofs.Try.f72 as63q rs63q up63q s63q := by intro k d; kernel_rfl
theorem F63q : FnOK Proofs.Try.prog R63q := fn_0 B63q ev63q

/-! ### giro/lim.isRow -/
noncomputable def E64q : Env := ⟨Proofs.Try.prog, fun _ => false, sumsOf [R63q]⟩
def A64q : Notes := ⟨[], []⟩
theorem B64q : EnvB E64q := env_n mixed_orders ⟨F63q, trivial⟩
def as64q : List AS := [.c (.dat false (.int .i64)), .c (.int .i64), .c (.fn 70)]
def rs64q : RS := .c (.bool)
def pk64q : Bool → RL rs64q.cells := fun x => (x, ())
def up64q : RL rs64q.cells → Bool := fun d => d.1
def s64q (k : Nat) (d : AD as64q) := lim_isRow__lim_isNet k d.1 d.2.1
def R64q : Nat × Entry := (69, fun k nm args h => entry as64q rs64q (s64q k) pk64q nm args h)
theorem ev64q : EvOK E64q A64q 0 Proofs.Try.f69 as64q rs64q up64q s64q := by intro k d; kernel_rfl
theorem F64q : FnOK Proofs.Try.prog R64q := fn_0 B64q ev64q

/-! ### giro/lim.isSquare -/
noncomputable def E65q : Env := ⟨Proofs.Try.prog, fun _ => false, sumsOf [R64q]⟩
def I65_0q : Spec := ⟨[(1, .c (.int .i64)), (2, .c (.lit (.fn 70 []))), (13, .c (.dat false (.sl (.int .i64)))), (14, .c (.int .i64)), (15, .c (.int .i64))], [], []⟩
def X0_65_0q : Spec := ⟨[], [], []⟩
def X1_65_0q : Spec := ⟨[(6, .c (.bool))], [], []⟩
def O65_0q : List (Ex × Spec) := [(.exit 0, X0_65_0q), (.ret, X1_65_0q)]
def c65_0q (f : lim_isSquare__lim_isNet_L0T) (d : I65_0q.den) : Option (Unit ⊕ Bool) := f d.1.1.1 d.1.2.2.1.1 d.1.2.2.2.1.1 d.1.2.2.2.2.1.1
def T65_0q : OutD O65_0q → (Unit ⊕ Bool)
 | .inl d => .inl ()
 | .inr d => .inr d.1.1.1
def e65_0q : Elim (Unit ⊕ Bool) := fun base x _ K => match x with
 | .inl x => K (.exit 0) (stOf base X0_65_0q ((), ()))
 | .inr x => K .ret (stOf base X1_65_0q (((x, ()), ()), ()))
def L65_0q : LoopSum := ⟨I65_0q, O65_0q, (Unit ⊕ Bool), fun k d => c65_0q (lim_isSquare__lim_isNet_L0 k k) d, e65_0q⟩
def A65q : Notes := ⟨[], [(4, L65_0q)]⟩
theorem B65q : EnvB E65q := env_n mixed_orders ⟨F64q, trivial⟩
theorem st65_0q : StepOK E65q A65q 0 25 (loopAt (bodyOf Proofs.Try.f67) 0) I65_0q O65_0q T65_0q c65_0q lim_isSquare__lim_isNet_L0b := by intro k rec d; kernel_rfl
theorem lk65_0q : LoopOK E65q.P 1000 0 25 (loopAt (bodyOf Proofs.Try.f67) 0) L65_0q := loop_b B65q st65_0q lim_isSquare__lim_isNet_L0 e65_0q (by intro o R K; rcases o with o | o <;> rfl) loops0
def as65q : List AS := [.c (.dat false (.sl (.int .i64))), .c (.int .i64), .c (.fn 70)]
def rs65q : RS := .c (.bool)
def pk65q : Bool → RL rs65q.cells := fun x => (x, ())
def up65q : RL rs65q.cells → Bool := fun d => d.1
def s65q (k : Nat) (d : AD as65q) := lim_isSquare__lim_isNet k d.1 d.2.1
def R65q : Nat × Entry := (67, fun k nm args h => entry as65q rs65q (s65q k) pk65q nm args h)
theorem ev65q : EvOK E65q A65q 0 Proofs.Try.f67 as65q rs65q up65q s65q := by intro k d; kernel_rfl
theorem F65q : FnOK Proofs.Try.prog R65q := fn_b B65q ev65q (loops1 lk65_0q)

/-! ### giro/lim.isTurned -/
noncomputable def E66q : Env := ⟨Proofs.Try.prog, fun _ => false, sumsOf []⟩
def I66_0q : Spec := ⟨[(0, .c (.dat false (.sl (.int .i64)))), (3, .c (.int .i64)), (7, .c (.dat false (.sl (.int .i64)))), (8, .c (.int .i64)), (9, .c (.int .i64)), (14, .c (.dat false (.int .i64))), (15, .c (.int .i64)), (16, .c (.int .i64))], [], []⟩
def X0_66_0q : Spec := ⟨[(0, .c (.dat false (.sl (.int .i64)))), (7, .c (.dat false (.sl (.int .i64)))), (8, .c (.int .i64)), (9, .c (.int .i64))], [], []⟩
def X1_66_0q : Spec := ⟨[(2, .c (.bool))], [], []⟩
def O66_0q : List (Ex × Spec) := [(.exit 2, X0_66_0q), (.ret, X1_66_0q)]
def c66_0q (f : lim_isTurned_L1T) (d : I66_0q.den) : Option lim_isTurned_L1X := f d.1.1.1 d.1.2.1.1 d.1.2.2.1.1 d.1.2.2.2.1.1 d.1.2.2.2.2.1.1 d.1.2.2.2.2.2.1.1 d.1.2.2.2.2.2.2.1.1 d.1.2.2.2.2.2.2.2.1.1
def T66_0q : OutD O66_0q → lim_isTurned_L1X
 | .inl d => .inl (d.1.1.1, d.1.2.1.1, d.1.2.2.1.1, d.1.2.2.2.1.1)
 | .inr d => .inr d.1.1.1
def e66_0q : Elim lim_isTurned_L1X := fun base x _ K => match x with
 | .inl x => K (.exit 2) (stOf base X0_66_0q (((x.1, ()), (x.2.1, ()), (x.2.2.1, ()), (x.2.2.2, ()), ()), ()))
 | .inr x => K .ret (stOf base X1_66_0q (((x, ()), ()), ()))
def L66_0q : LoopSum := ⟨I66_0q, O66_0q, lim_isTurned_L1X, fun k d => c66_0q (lim_isTurned_L1 k k) d, e66_0q⟩
def I66_1q : Spec := ⟨[(0, .c (.dat false (.sl (.int .i64)))), (7, .c (.dat false (.sl (.int .i64)))), (8, .c (.int .i64)), (9, .c (.int .i64))], [], []⟩
def X0_66_1q : Spec := ⟨[], [], []⟩
def X1_66_1q : Spec := ⟨[(2, .c (.bool))], [], []⟩
def O66_1q : List (Ex × Spec) := [(.exit 0, X0_66_1q), (.ret, X1_66_1q)]
def c66_1q (f : lim_isTurned_L0T) (d : I66_1q.den) : Option (Unit ⊕ Bool) := f d.1.1.1 d.1.2.1.1 d.1.2.2.1.1 d.1.2.2.2.1.1
def T66_1q : OutD O66_1q → (Unit ⊕ Bool)
 | .inl d => .inl ()
 | .inr d => .inr d.1.1.1
def e66_1q : Elim (Unit ⊕ Bool) := fun base x _ K => match x with
 | .inl x => K (.exit 0) (stOf base X0_66_1q ((), ()))
 | .inr x => K .ret (stOf base X1_66_1q (((x, ()), ()), ()))
def L66_1q : LoopSum := ⟨I66_1q, O66_1q, (Unit ⊕ Bool), fun k d => c66_1q (lim_isTurned_L0 k k) d, e66_1q⟩
def A66q : Notes := ⟨[], [(5, L66_0q), (2, L66_1q)]⟩
theorem B66q : EnvB E66q := env_n mixed_orders trivial
theorem st66_0q : StepOK E66q A66q 0 33 (loopAt (loopAt (bodyOf Proofs.Try.f71) 0) 0) I66_0q O66_0q T66_0q c66_0q lim_isTurned_L1b := by intro k rec d; kernel_rfl
theorem lk66_0q : LoopOK E66q.P 1000 0 33 (loopAt (loopAt (bodyOf Proofs.Try.f71) 0) 0) L66_0q := loop_b B66q st66_0q lim_isTurned_L1 e66_0q (by intro o R K; rcases o with o | o <;> rfl) loops0
theorem st66_1q : StepOK E66q A66q 0 33 (loopAt (bodyOf Proofs.Try.f71) 0) I66_1q O66_1q T66_1q c66_1q lim_isTurned_L0b := by intro k rec d; kernel_rfl
theorem lk66_1q : LoopOK E66q.P 1000 0 33 (loopAt (bodyOf Proofs.Try.f71) 0) L66_1q := loop_b B66q st66_1q lim_isTurned_L0 e66_1q (by intro o R K; rcases o with o | o <;> rfl) (loops1 lk66_0q)
def as66q : List AS := [.c (.dat false (.sl (.int .i64)))]
def rs66q : RS := .c (.bool)
def pk66q : Bool → RL rs66q.cells := fun x => (x, ())
def up66q : RL rs66q.cells → Bool := fun d => d.1
def s66q (k : Nat) (d : AD as66q) := lim_isTurned k d.1
def R66q : Nat × Entry := (71, fun k nm args h => entry as66q rs66q (s66q k) pk66q nm args h)
theorem ev66q : EvOK E66q A66q 0 Proofs.Try.f71 as66q rs66q up66q s66q := by intro k d; kernel_rfl
theorem F66q : FnOK Proofs.Try.prog R66q := fn_b B66q ev66q (loops1 lk66_1q)

/-! ### giro/lim.Is -/
noncomputable def E67q : Env := ⟨Proofs.Try.prog, fun _ => false, sumsOf [R53q, R59q, R58q, R65q, R66q]⟩
def A67q : Notes := ⟨[], []⟩
theorem B67q : EnvB E67q := env_n mixed_orders ⟨F53q, F59q, F58q, F65q, F66q, trivial⟩
def as67q : List AS := [.agg [.dat false y6q, .dat false (.sl (.int .i64)), .dat false (.int .i64), .dat false (.sl (.int .i64))]]
def rs67q : RS := .c (.bool)
def pk67q : Bool → RL rs67q.cells := fun x => (x, ())
def up67q : RL rs67q.cells → Bool := fun d => d.1
def s67q (k : Nat) (d : AD as67q) := lim_Is k d.1 d.2.1 d.2.2.1 d.2.2.2.1
def R67q : Nat × Entry := (53, fun k nm args h => entry as67q rs67q (s67q k) pk67q nm args h)
theorem ev67q : EvOK E67q A67q 0 Proofs.Try.f53 as67q rs67q up67q s67q := by intro k d; kernel_rfl
theorem F67q : FnOK Proofs.Try.prog R67q := fn_0 B67q ev67q

/-! ### giro/post.Post -/
noncomputable def E68q : Env := ⟨Proofs.Try.prog, fun _ => false, sumsOf [R44q, R49q, R35q, R67q]⟩
def I68_0q : Spec := ⟨[(2, .c (.lit (.ptr 1001000 0))), (4, .c (.lit (.ptr 1001001 0))), (7, .c (.lit (.ptr 1001002 0))), (24, .c (.dat false y10q)), (25, .c (.int .i64)), (26, .c (.int .i64))], [.box true [.dat true y6q, .dat true (.sl (.int .i64)), .dat true (.int .i64), .dat true (.sl (.int .i64))], .box true [.lit .nsl, .lit .nsl, .lit .nsl, .lit .nsl], .box true [.lit (.osl 1001003 none), .lit (.osl 1001004 none), .lit (.osl 1001005 none), .lit (.osl 1001006 none)], .arr true y6q, .mat, .arr true (.int .i64), .mat], []⟩
def X0_68_0q : Spec := ⟨[(2, .c (.lit (.ptr 1001000 0))), (4, .c (.lit (.ptr 1001001 0))), (7, .c (.lit (.ptr 1001002 0)))], [.box true [.dat true y6q, .dat true (.sl (.int .i64)), .dat true (.int .i64), .dat true (.sl (.int .i64))], .box true [.lit .nsl, .lit .nsl, .lit .nsl, .lit .nsl], .box true [.lit (.osl 1001003 none), .lit (.osl 1001004 none), .lit (.osl 1001005 none), .lit (.osl 1001006 none)], .arr true y6q, .mat, .arr true (.int .i64), .mat], []⟩
def O68_0q : List (Ex × Spec) := [(.exit 0, X0_68_0q)]
def c68_0q (f : post_Post_L0T) (d : I68_0q.den) : Option post_Post_L0X := f d.1.2.2.2.1.1 d.1.2.2.2.2.1.1 d.1.2.2.2.2.2.1.1 d.2.1.1 d.2.1.2.1 d.2.1.2.2.1 d.2.1.2.2.2.1 d.2.2.2.2.1 d.2.2.2.2.2.1 d.2.2.2.2.2.2.1 d.2.2.2.2.2.2.2.1
def T68_0q : OutD O68_0q → post_Post_L0X := fun d => (d.2.1.1, d.2.1.2.1, d.2.1.2.2.1, d.2.1.2.2.2.1, d.2.2.2.2.1, d.2.2.2.2.2.1, d.2.2.2.2.2.2.1, d.2.2.2.2.2.2.2.1)
def e68_0q : Elim post_Post_L0X := fun base x _ K => K (.exit 0) (stOf base X0_68_0q (((), (), (), ()), ((x.1, x.2.1, x.2.2.1, x.2.2.2.1, ()), (), (), x.2.2.2.2.1, x.2.2.2.2.2.1, x.2.2.2.2.2.2.1, x.2.2.2.2.2.2.2, ())))
def L68_0q : LoopSum := ⟨I68_0q, O68_0q, post_Post_L0X, fun k d => c68_0q (post_Post_L0 k k) d, e68_0q⟩
def A68q : Notes := ⟨[], [(6, L68_0q)]⟩
theorem B68q : EnvB E68q := env_n mixed_orders ⟨F44q, F49q, F35q, F67q, trivial⟩
theorem st68_0q : StepOK E68q A68q 0 104 (loopAt (bodyOf Proofs.Try.f62) 0) I68_0q O68_0q T68_0q c68_0q post_Post_L0b := by intro k rec d; kernel_rfl
theorem lk68_0q : LoopOK E68q.P 1000 0 104 (loopAt (bodyOf Proofs.Try.f62) 0) L68_0q := loop_b B68q st68_0q post_Post_L0 e68_0q (fun _ _ _ => rfl) loops0
def as68q : List AS := [.agg [.dat true y6q, .dat true (.sl (.int .i64)), .dat true (.int .i64), .dat true (.sl (.int .i64))], .c (.dat false y10q)]
def rs68q : RS := .tup [(true, [.fro y6q, .fro (.sl (.int .i64)), .fro (.int .i64), .fro (.sl (.int .i64))]), (false, [.int .i64])]
def pk68q : (List K4q) × (List (List Int)) × (List Int) × (List (List Int)) × Int → RL rs68q.cells := fun x => (x.1, x.2.1, x.2.2.1, x.2.2.2.1, x.2.2.2.2, ())
def up68q : RL rs68q.cells → (List K4q) × (List (List Int)) × (List Int) × (List (List Int)) × Int := fun d => (d.1, d.2.1, d.2.2.1, d.2.2.2.1, d.2.2.2.2.1)
def s68q (k : Nat) (d : AD as68q) := post_Post k d.1 d.2.1 d.2.2.1 d.2.2.2.1 d.2.2.2.2.1
def R68q : Nat × Entry := (62, fun k nm args h => entry as68q rs68q (s68q k) pk68q nm args h)
theorem ev68q : EvOK E68q A68q 0 Proofs.Try.f62 as68q rs68q up68q s68q := by intro k d; kernel_rfl
theorem F68q : FnOK Proofs.Try.prog R68q := fn_b B68q ev68q (loops1 lk68_0q)

/-! ### giro/free.next -/
noncomputable def E69q : Env := ⟨Proofs.Try.prog, fun _ => false, sumsOf [R21q, R41q, R68q]⟩
def I69_0q : Spec := ⟨[(3, .c (.lit (.ptr 1001000 0))), (6, .c (.lit (.ptr 1001001 0))), (7, .c (.lit (.ptr 1001002 0))), (15, .c (.lit (.osl 1001003 none))), (16, .c (.int .i64)), (17, .c (.int .i64))], [.box true [.dat true y6q, .dat true (.sl (.int .i64)), .dat true (.int .i64), .dat true (.sl (.int .i64))], .box true [.int .i64, .int .i64, .int .i64, .int .i64, .int .i64, .int .i64, .int .i64], .box true [.lit .nsl, .lit .nsl, .lit .nsl, .lit .nsl], .arr true y10q], []⟩
def X0_69_0q : Spec := ⟨[(3, .c (.lit (.ptr 1001000 0))), (6, .c (.lit (.ptr 1001001 0))), (7, .c (.lit (.ptr 1001002 0)))], [.box true [.dat true y6q, .dat true (.sl (.int .i64)), .dat true (.int .i64), .dat true (.sl (.int .i64))], .box true [.int .i64, .int .i64, .int .i64, .int .i64, .int .i64, .int .i64, .int .i64], .box true [.lit .nsl, .lit .nsl, .lit .nsl, .lit .nsl]], []⟩
def X1_69_0q : Spec := ⟨[(6, .c (.lit (.ptr 1001000 0))), (7, .c (.lit (.ptr 1001001 0))), (8, .c (.bool))], [.box true [.int .i64, .int .i64, .int .i64, .int .i64, .int .i64, .int .i64, .int .i64], .box true [.dat true y6q, .dat true (.sl (.int .i64)), .dat true (.int .i64), .dat true (.sl (.int .i64))]], []⟩
def O69_0q : List (Ex × Spec) := [(.exit 0, X0_69_0q), (.ret, X1_69_0q)]
def c69_0q (f : free_next_L0T) (d : I69_0q.den) : Option free_next_L0X := f d.1.2.2.2.2.1.1 d.1.2.2.2.2.2.1.1 d.2.1.1 d.2.1.2.1 d.2.1.2.2.1 d.2.1.2.2.2.1 d.2.2.1.1 d.2.2.1.2.1 d.2.2.1.2.2.1 d.2.2.1.2.2.2.1 d.2.2.1.2.2.2.2.1 d.2.2.1.2.2.2.2.2.1 d.2.2.1.2.2.2.2.2.2.1 d.2.2.2.2.1
def T69_0q : OutD O69_0q → free_next_L0X
 | .inl d => .inl (d.2.1.1, d.2.1.2.1, d.2.1.2.2.1, d.2.1.2.2.2.1, d.2.2.1.1, d.2.2.1.2.1, d.2.2.1.2.2.1, d.2.2.1.2.2.2.1, d.2.2.1.2.2.2.2.1, d.2.2.1.2.2.2.2.2.1, d.2.2.1.2.2.2.2.2.2.1)
 | .inr d => .inr (d.1.2.2.1.1, d.2.1.1, d.2.1.2.1, d.2.1.2.2.1, d.2.1.2.2.2.1, d.2.1.2.2.2.2.1, d.2.1.2.2.2.2.2.1, d.2.1.2.2.2.2.2.2.1, d.2.2.1.1, d.2.2.1.2.1, d.2.2.1.2.2.1, d.2.2.1.2.2.2.1)
def e69_0q : Elim free_next_L0X := fun base x _ K => match x with
 | .inl x => K (.exit 0) (stOf base X0_69_0q (((), (), (), ()), ((x.1, x.2.1, x.2.2.1, x.2.2.2.1, ()), (x.2.2.2.2.1, x.2.2.2.2.2.1, x.2.2.2.2.2.2.1, x.2.2.2.2.2.2.2.1, x.2.2.2.2.2.2.2.2.1, x.2.2.2.2.2.2.2.2.2.1, x.2.2.2.2.2.2.2.2.2.2, ()), (), ())))
 | .inr x => K .ret (stOf base X1_69_0q (((), (), (x.1, ()), ()), ((x.2.1, x.2.2.1, x.2.2.2.1, x.2.2.2.2.1, x.2.2.2.2.2.1, x.2.2.2.2.2.2.1, x.2.2.2.2.2.2.2.1, ()), (x.2.2.2.2.2.2.2.2.1, x.2.2.2.2.2.2.2.2.2.1, x.2.2.2.2.2.2.2.2.2.2.1, x.2.2.2.2.2.2.2.2.2.2.2, ()), ())))
def L69_0q : LoopSum := ⟨I69_0q, O69_0q, free_next_L0X, fun k d => c69_0q (free_next_L0 k k) d, e69_0q⟩
def A69q : Notes := ⟨[], [(2, L69_0q)]⟩
theorem B69q : EnvB E69q := env_n mixed_orders ⟨F21q, F41q, F68q, trivial⟩
theorem st69_0q : StepOK E69q A69q 0 40 (loopAt (bodyOf Proofs.Try.f82) 0) I69_0q O69_0q T69_0q c69_0q free_next_L0b := by intro k rec d; kernel_rfl
theorem lk69_0q : LoopOK E69q.P 1000 0 40 (loopAt (bodyOf Proofs.Try.f82) 0) L69_0q := loop_b B69q st69_0q free_next_L0 e69_0q (by intro o R K; rcases o with o | o <;> rfl) loops0
def as69q : List AS := [.agg [.dat true y6q, .dat true (.sl (.int .i64)), .dat true (.int .i64), .dat true (.sl (.int .i64))], .c (.dat true y10q), .c (.int .i64)]
def rs69q : RS := .tup [(true, [.int .i64, .int .i64, .int .i64, .int .i64, .int .i64, .int .i64, .int .i64]), (true, [.fro y6q, .fro (.sl (.int .i64)), .fro (.int .i64), .fro (.sl (.int .i64))]), (false, [.bool])]
def pk69q : Int × Int × Int × Int × Int × Int × Int × (List K4q) × (List (List Int)) × (List Int) × (List (List Int)) × Bool → RL rs69q.cells := fun x => (x.1, x.2.1, x.2.2.1, x.2.2.2.1, x.2.2.2.2.1, x.2.2.2.2.2.1, x.2.2.2.2.2.2.1, x.2.2.2.2.2.2.2.1, x.2.2.2.2.2.2.2.2.1, x.2.2.2.2.2.2.2.2.2.1, x.2.2.2.2.2.2.2.2.2.2.1, x.2.2.2.2.2.2.2.2.2.2.2, ())
def up69q : RL rs69q.cells → Int × Int × Int × Int × Int × Int × Int × (List K4q) × (List (List Int)) × (List Int) × (List (List Int)) × Bool := fun d => (d.1, d.2.1, d.2.2.1, d.2.2.2.1, d.2.2.2.2.1, d.2.2.2.2.2.1, d.2.2.2.2.2.2.1, d.2.2.2.2.2.2.2.1, d.2.2.2.2.2.2.2.2.1, d.2.2.2.2.2.2.2.2.2.1, d.2.2.2.2.2.2.2.2.2.2.1, d.2.2.2.2.2.2.2.2.2.2.2.1)
def s69q (k : Nat) (d : AD as69q) := free_next k d.1 d.2.1 d.2.2.1 d.2.2.2.1 d.2.2.2.2.1 d.2.2.2.2.2.1
def R69q : Nat × Entry := (82, fun k nm args h => entry as69q rs69q (s69q k) pk69q nm args h)
theorem ev69q : EvOK E69q A69q 0 Proofs.Try.f82 as69q rs69q up69q s69q := by intro k d; kernel_rfl
theorem F69q : FnOK Proofs.Try.prog R69q := fn_b B69q ev69q (loops1 lk69_0q)

/-! ### giro/row.Find$1 -/
noncomputable def E70q : Env := ⟨Proofs.Try.prog, fun _ => false, sumsOf []⟩
def A70q : Notes := ⟨[], []⟩
theorem B70q : EnvB E70q := env_n mixed_orders trivial
def as70q : List AS := [.agg [.int .i64, .int .i64, .int .i64, .int .i64, .int .i64, .int .i64, .int .i64], .ptr [.int .i64]]
def rs70q : RS := .c (.bool)
def pk70q : Bool → RL rs70q.cells := fun x => (x, ())
def up70q : RL rs70q.cells → Bool := fun d => d.1
def s70q (k : Nat) (d : AD as70q) := row_Find_fn1 k d.1 d.2.1 d.2.2.1 d.2.2.2.1 d.2.2.2.2.1 d.2.2.2.2.2.1 d.2.2.2.2.2.2.1 d.2.2.2.2.2.2.2.1
def R70q : Nat × Entry := (114, fun k nm args h => entry as70q rs70q (s70q k) pk70q nm args h)
theorem ev70q : EvOK E70q A70q 0 Proofs.Try.f114 as70q rs70q up70q s70q := by intro k d; kernel_rfl
theorem F70q : FnOK Proofs.Try.prog R70q := fn_0 B70q ev70q

/-! ### slices.IndexFunc[[]giro/api.Pay,giro/api.Pay] -/
noncomputable def E71q : Env := ⟨Proofs.Try.prog, fun _ => false, sumsOf [R70q]⟩
def I71_0q : Spec := ⟨[(0, .c (.dat false y10q)), (1, .c (.lit (.fn 114 [1001000]))), (7, .c (.int .i64)), (8, .c (.int .i64))], [.robox [.int .i64]], []⟩
def X0_71_0q : Spec := ⟨[], [], []⟩
def X1_71_0q : Spec := ⟨[(4, .c (.int .i64))], [], []⟩
def O71_0q : List (Ex × Spec) := [(.exit 0, X0_71_0q), (.ret, X1_71_0q)]
def c71_0q (f : slices_IndexFunc_Pay__row_Find_fn1_L0T) (d : I71_0q.den) : Option (Unit ⊕ Int) := f d.1.1.1 d.1.2.2.1.1 d.1.2.2.2.1.1 d.2.1.1
def T71_0q : OutD O71_0q → (Unit ⊕ Int)
 | .inl d => .inl ()
 | .inr d => .inr d.1.1.1
def e71_0q : Elim (Unit ⊕ Int) := fun base x _ K => match x with
 | .inl x => K (.exit 0) (stOf base X0_71_0q ((), ()))
 | .inr x => K .ret (stOf base X1_71_0q (((x, ()), ()), ()))
def L71_0q : LoopSum := ⟨I71_0q, O71_0q, (Unit ⊕ Int), fun k d => c71_0q (slices_IndexFunc_Pay__row_Find_fn1_L0 k k) d, e71_0q⟩
def A71q : Notes := ⟨[], [(2, L71_0q)]⟩
theorem B71q : EnvB E71q := env_n mixed_orders ⟨F70q, trivial⟩
theorem st71_0q : StepOK E71q A71q 0 19 (loopAt (bodyOf Proofs.Try.f104) 0) I71_0q O71_0q T71_0q c71_0q slices_IndexFunc_Pay__row_Find_fn1_L0b := by intro k rec d; kernel_rfl
theorem lk71_0q : LoopOK E71q.P 1000 0 19 (loopAt (bodyOf Proofs.Try.f104) 0) L71_0q := loop_b B71q st71_0q slices_IndexFunc_Pay__row_Find_fn1_L0 e71_0q (by intro o R K; rcases o with o | o <;> rfl) loops0
def as71q : List AS := [.c (.dat false y10q), .fn 114 [[.int .i64]]]
def rs71q : RS := .c (.int .i64)
def pk71q : Int → RL rs71q.cells := fun x => (x, ())
def up71q : RL rs71q.cells → Int := fun d => d.1
def s71q (k : Nat) (d : AD as71q) := slices_IndexFunc_Pay__row_Find_fn1 k d.1 d.2.1
def R71q : Nat × Entry := (104, fun k nm args h => entry as71q rs71q (s71q k) pk71q nm args h)
theorem ev71q : EvOK E71q A71q 0 Proofs.Try.f104 as71q rs71q up71q s71q := by intro k d; kernel_rfl
theorem F71q : FnOK Proofs.Try.prog R71q := fn_b B71q ev71q (loops1 lk71_0q)

/-! ### giro/row.Find -/
noncomputable def E72q : Env := ⟨Proofs.Try.prog, fun _ => false, sumsOf [R71q]⟩
def A72q : Notes := ⟨[], []⟩
theorem B72q : EnvB E72q := env_n mixed_orders ⟨F71q, trivial⟩
def as72q : List AS := [.c (.dat false y10q), .c (.int .i64)]
def rs72q : RS := .c (.int .i64)
def pk72q : Int → RL rs72q.cells := fun x => (x, ())
def up72q : RL rs72q.cells → Int := fun d => d.1
def s72q (k : Nat) (d : AD as72q) := row_Find k d.1 d.2.1
def R72q : Nat × Entry := (94, fun k nm args h => entry as72q rs72q (s72q k) pk72q nm args h)
theorem ev72q : EvOK E72q A72q 0 Proofs.Try.f94 as72q rs72q up72q s72q := by intro k d; kernel_rfl
theorem F72q : FnOK Proofs.Try.prog R72q := fn_0 B72q ev72q

/-! ### giro/audit.Zero$1 -/
noncomputable def E98q : Env := ⟨Proofs.Try.prog, fun _ => false, sumsOf []⟩
def A98q : Notes := ⟨[], []⟩
theorem B98q : EnvB E98q := env_n mixed_orders trivial
def as98q : List AS := [.c (.dat false (.int .i64)), .ptr [.dat false y6q, .dat false (.sl (.int .i64)), .dat false (.int .i64), .dat false (.sl (.int .i64))]]
def rs98q : RS := .c (.bool)
def pk98q : Bool → RL rs98q.cells := fun x => (x, ())
def up98q : RL rs98q.cells → Bool := fun d => d.1
def s98q (k : Nat) (d : AD as98q) := audit_Zero_fn1 k d.1 d.2.1 d.2.2.1 d.2.2.2.1 d.2.2.2.2.1
def R98q : Nat × Entry := (30, fun k nm args h => entry as98q rs98q (s98q k) pk98q nm args h)
theorem ev98q : EvOK E98q A98q 0 Proofs.Try.f30 as98q rs98q up98q s98q := by intro k d; kernel_rfl
theorem F98q : FnOK Proofs.Try.prog R98q := fn_0 B98q ev98q

/-! ### slices.IndexFunc[[][]int64,[]int64] -/
noncomputable def E99q : Env := ⟨Proofs.Try.prog, fun _ => false, sumsOf [R98q]⟩
def I99_0q : Spec := ⟨[(0, .c (.dat false (.sl (.int .i64)))), (1, .c (.lit (.fn 30 [1001000]))), (7, .c (.int .i64)), (8, .c (.int .i64))], [.robox [.dat false y6q, .dat false (.sl (.int .i64)), .dat false (.int .i64), .dat false (.sl (.int .i64))]], []⟩
def X0_99_0q : Spec := ⟨[], [], []⟩
def X1_99_0q : Spec := ⟨[(4, .c (.int .i64))], [], []⟩
def O99_0q : List (Ex × Spec) := [(.exit 0, X0_99_0q), (.ret, X1_99_0q)]
def c99_0q (f : slices_IndexFunc_Rowint64__audit_Zero_fn1_L0T) (d : I99_0q.den) : Option (Unit ⊕ Int) := f d.1.1.1 d.1.2.2.1.1 d.1.2.2.2.1.1 d.2.1.1 d.2.1.2.1 d.2.1.2.2.1 d.2.1.2.2.2.1
def T99_0q : OutD O99_0q → (Unit ⊕ Int)
 | .inl d => .inl ()
 | .inr d => .inr d.1.1.1
def e99_0q : Elim (Unit ⊕ Int) := fun base x _ K => match x with
 | .inl x => K (.exit 0) (stOf base X0_99_0q ((), ()))
 | .inr x => K .ret (stOf base X1_99_0q (((x, ()), ()), ()))
def L99_0q : LoopSum := ⟨I99_0q, O99_0q, (Unit ⊕ Int), fun k d => c99_0q (slices_IndexFunc_Rowint64__audit_Zero_fn1_L0 k k) d, e99_0q⟩
def A99q : Notes := ⟨[], [(2, L99_0q)]⟩
theorem B99q : EnvB E99q := env_n mixed_orders ⟨F98q, trivial⟩
theorem st99_0q : StepOK E99q A99q 0 19 (loopAt (bodyOf Proofs.Try.f42) 0) I99_0q O99_0q T99_0q c99_0q slices_IndexFunc_Rowint64__audit_Zero_fn1_L0b := by intro k rec d; kernel_rfl
theorem lk99_0q : LoopOK E99q.P 1000 0 19 (loopAt (bodyOf Proofs.Try.f42) 0) L99_0q := loop_b B99q st99_0q slices_IndexFunc_Rowint64__audit_Zero_fn1_L0 e99_0q (by intro o R K; rcases o with o | o <;> rfl) loops0
def as99q : List AS := [.c (.dat false (.sl (.int .i64))), .fn 30 [[.dat false y6q, .dat false (.sl (.int .i64)), .dat false (.int .i64), .dat false (.sl (.int .i64))]]]
def rs99q : RS := .c (.int .i64)
def pk99q : Int → RL rs99q.cells := fun x => (x, ())
def up99q : RL rs99q.cells → Int := fun d => d.1
def s99q (k : Nat) (d : AD as99q) := slices_IndexFunc_Rowint64__audit_Zero_fn1 k d.1 d.2.1 d.2.2.1 d.2.2.2.1 d.2.2.2.2.1
def R99q : Nat × Entry := (42, fun k nm args h => entry as99q rs99q (s99q k) pk99q nm args h)
theorem ev99q : EvOK E99q A99q 0 Proofs.Try.f42 as99q rs99q up99q s99q := by intro k d; kernel_rfl
theorem F99q : FnOK Proofs.Try.prog R99q := fn_b B99q ev99q (loops1 lk99_0q)

/-! ### slices.ContainsFunc[[][]int64,[]int64] -/
noncomputable def E100q : Env := ⟨Proofs.Try.prog, fun _ => false, sumsOf [R99q]⟩
def A100q : Notes := ⟨[], []⟩
theorem B100q : EnvB E100q := env_n mixed_orders ⟨F99q, trivial⟩
def as100q : List AS := [.c (.dat false (.sl (.int .i64))), .fn 30 [[.dat false y6q, .dat false (.sl (.int .i64)), .dat false (.int .i64), .dat false (.sl (.int .i64))]]]
def rs100q : RS := .c (.bool)
def pk100q : Bool → RL rs100q.cells := fun x => (x, ())
def up100q : RL rs100q.cells → Bool := fun d => d.1
def s100q (k : Nat) (d : AD as100q) := slices_ContainsFunc_Rowint64__audit_Zero_fn1 k d.1 d.2.1 d.2.2.1 d.2.2.2.1 d.2.2.2.2.1
def R100q : Nat × Entry := (31, fun k nm args h => entry as100q rs100q (s100q k) pk100q nm args h)
theorem ev100q : EvOK E100q A100q 0 Proofs.Try.f31 as100q rs100q up100q s100q := by intro k d; kernel_rfl
theorem F100q : FnOK Proofs.Try.prog R100q := fn_0 B100q ev100q

def R101q : Nat × Entry := (43, add64E)
theorem F101q : FnOK Proofs.Try.prog R101q := fn_add64 (fn := Proofs.Try.f43)

/-! ### giro/cash.Sum -/
noncomputable def E102q : Env := ⟨Proofs.Try.prog, fun _ => false, sumsOf [R101q]⟩
def I102_0q : Spec := ⟨[(4, .c (.int .i64)), (5, .c (.int .u64)), (9, .c (.dat false (.int .i64))), (10, .c (.int .i64)), (11, .c (.int .i64))], [], []⟩
def X0_102_0q : Spec := ⟨[(4, .c (.int .i64)), (5, .c (.int .u64))], [], []⟩
def O102_0q : List (Ex × Spec) := [(.exit 0, X0_102_0q)]
def c102_0q (f : cash_Sum_L0T) (d : I102_0q.den) : Option K5q := f d.1.1.1 d.1.2.1.1 d.1.2.2.1.1 d.1.2.2.2.1.1 d.1.2.2.2.2.1.1
def T102_0q : OutD O102_0q → K5q := fun d => (d.1.1.1, d.1.2.1.1)
def e102_0q : Elim K5q := fun base x _ K => K (.exit 0) (stOf base X0_102_0q (((x.1, ()), (x.2, ()), ()), ()))
def L102_0q : LoopSum := ⟨I102_0q, O102_0q, K5q, fun k d => c102_0q (cash_Sum_L0 k k) d, e102_0q⟩
def A102q : Notes := ⟨[], [(4, L102_0q)]⟩
theorem B102q : EnvB E102q := env_n mixed_orders ⟨F101q, trivial⟩
theorem st102_0q : StepOK E102q A102q 0 37 (loopAt (bodyOf Proofs.Try.f32) 0) I102_0q O102_0q T102_0q c102_0q cash_Sum_L0b := by intro k rec d; kernel_rfl
theorem lk102_0q : LoopOK E102q.P 1000 0 37 (loopAt (bodyOf Proofs.Try.f32) 0) L102_0q := loop_b B102q st102_0q cash_Sum_L0 e102_0q (fun _ _ _ => rfl) loops0
def as102q : List AS := [.c (.dat false (.int .i64))]
def rs102q : RS := .tup [(false, [.int .i64]), (false, [.bool])]
def pk102q : Int × Bool → RL rs102q.cells := fun x => (x.1, x.2, ())
def up102q : RL rs102q.cells → Int × Bool := fun d => (d.1, d.2.1)
def s102q (k : Nat) (d : AD as102q) := cash_Sum k d.1
def R102q : Nat × Entry := (32, fun k nm args h => entry as102q rs102q (s102q k) pk102q nm args h)
theorem ev102q : EvOK E102q A102q 0 Proofs.Try.f32 as102q rs102q up102q s102q := by intro k d; kernel_rfl
theorem F102q : FnOK Proofs.Try.prog R102q := fn_b B102q ev102q (loops1 lk102_0q)

/-! ### giro/audit.Zero -/
noncomputable def E103q : Env := ⟨Proofs.Try.prog, fun _ => false, sumsOf [R100q, R102q]⟩
def I103_0q : Spec := ⟨[(1, .c (.lit (.ptr 1001000 0))), (3, .c (.lit (.osl 1001001 none))), (5, .c (.int .i64)), (17, .c (.dat false (.sl (.int .i64)))), (18, .c (.int .i64)), (19, .c (.int .i64)), (24, .c (.dat false (.int .i64))), (25, .c (.int .i64)), (26, .c (.int .i64))], [.box true [.dat false y6q, .dat false (.sl (.int .i64)), .dat false (.int .i64), .dat false (.sl (.int .i64))], .arr true (.int .i64)], [(3, none, (.int .i64), false)]⟩
def X0_103_0q : Spec := ⟨[(1, .c (.lit (.ptr 1001000 0))), (3, .c (.lit (.osl 1001001 none))), (17, .c (.dat false (.sl (.int .i64)))), (18, .c (.int .i64)), (19, .c (.int .i64))], [.box true [.dat false y6q, .dat false (.sl (.int .i64)), .dat false (.int .i64), .dat false (.sl (.int .i64))], .arr true (.int .i64)], []⟩
def X1_103_0q : Spec := ⟨[(2, .c (.bool))], [], []⟩
def O103_0q : List (Ex × Spec) := [(.exit 2, X0_103_0q), (.ret, X1_103_0q)]
def c103_0q (f : audit_Zero_L1T) (d : I103_0q.den) : Option audit_Zero_L1X := f d.1.2.2.1.1 d.1.2.2.2.1.1 d.1.2.2.2.2.1.1 d.1.2.2.2.2.2.1.1 d.1.2.2.2.2.2.2.1.1 d.1.2.2.2.2.2.2.2.1.1 d.1.2.2.2.2.2.2.2.2.1.1 d.2.1.1 d.2.1.2.1 d.2.1.2.2.1 d.2.1.2.2.2.1 d.2.2.1
def T103_0q : OutD O103_0q → audit_Zero_L1X
 | .inl d => .inl (d.1.2.2.1.1, d.1.2.2.2.1.1, d.1.2.2.2.2.1.1, d.2.1.1, d.2.1.2.1, d.2.1.2.2.1, d.2.1.2.2.2.1, d.2.2.1)
 | .inr d => .inr d.1.1.1
def e103_0q : Elim audit_Zero_L1X := fun base x _ K => match x with
 | .inl x => K (.exit 2) (stOf base X0_103_0q (((), (), (x.1, ()), (x.2.1, ()), (x.2.2.1, ()), ()), ((x.2.2.2.1, x.2.2.2.2.1, x.2.2.2.2.2.1, x.2.2.2.2.2.2.1, ()), x.2.2.2.2.2.2.2, ())))
 | .inr x => K .ret (stOf base X1_103_0q (((x, ()), ()), ()))
def L103_0q : LoopSum := ⟨I103_0q, O103_0q, audit_Zero_L1X, fun k d => c103_0q (audit_Zero_L1 k k) d, e103_0q⟩
def I103_1q : Spec := ⟨[(1, .c (.lit (.ptr 1001000 0))), (3, .c (.lit (.osl 1001001 none))), (17, .c (.dat false (.sl (.int .i64)))), (18, .c (.int .i64)), (19, .c (.int .i64))], [.box true [.dat false y6q, .dat false (.sl (.int .i64)), .dat false (.int .i64), .dat false (.sl (.int .i64))], .arr true (.int .i64)], [(3, none, (.int .i64), false)]⟩
def X0_103_1q : Spec := ⟨[(3, .c (.lit (.osl 1001000 none)))], [.arr true (.int .i64)], []⟩
def X1_103_1q : Spec := ⟨[(2, .c (.bool))], [], []⟩
def O103_1q : List (Ex × Spec) := [(.exit 0, X0_103_1q), (.ret, X1_103_1q)]
def c103_1q (f : audit_Zero_L0T) (d : I103_1q.den) : Option ((List Int) ⊕ Bool) := f d.1.2.2.1.1 d.1.2.2.2.1.1 d.1.2.2.2.2.1.1 d.2.1.1 d.2.1.2.1 d.2.1.2.2.1 d.2.1.2.2.2.1 d.2.2.1
def T103_1q : OutD O103_1q → ((List Int) ⊕ Bool)
 | .inl d => .inl d.2.1
 | .inr d => .inr d.1.1.1
def e103_1q : Elim ((List Int) ⊕ Bool) := fun base x _ K => match x with
 | .inl x => K (.exit 0) (stOf base X0_103_1q (((), ()), (x, ())))
 | .inr x => K .ret (stOf base X1_103_1q (((x, ()), ()), ()))
def L103_1q : LoopSum := ⟨I103_1q, O103_1q, ((List Int) ⊕ Bool), fun k d => c103_1q (audit_Zero_L0 k k) d, e103_1q⟩
def A103q : Notes := ⟨[], [(9, L103_0q), (6, L103_1q)]⟩
theorem B103q : EnvB E103q := env_n mixed_orders ⟨F100q, F102q, trivial⟩
theorem st103_0q : StepOK E103q A103q 0 58 (loopAt (loopAt (bodyOf Proofs.Try.f12) 0) 0) I103_0q O103_0q T103_0q c103_0q audit_Zero_L1b := by intro k rec d; kernel_rfl
theorem lk103_0q : LoopOK E103q.P 1000 0 58 (loopAt (loopAt (bodyOf Proofs.Try.f12) 0) 0) L103_0q := loop_b B103q st103_0q audit_Zero_L1 e103_0q (by intro o R K; rcases o with o | o <;> rfl) loops0
theorem st103_1q : StepOK E103q A103q 0 58 (loopAt (bodyOf Proofs.Try.f12) 0) I103_1q O103_1q T103_1q c103_1q audit_Zero_L0b := by intro k rec d; kernel_rfl
theorem lk103_1q : LoopOK E103q.P 1000 0 58 (loopAt (bodyOf Proofs.Try.f12) 0) L103_1q := loop_b B103q st103_1q audit_Zero_L0 e103_1q (by intro o R K; rcases o with o | o <;> rfl) (loops1 lk103_0q)
def as103q : List AS := [.agg [.dat false y6q, .dat false (.sl (.int .i64)), .dat false (.int .i64), .dat false (.sl (.int .i64))]]
def rs103q : RS := .c (.bool)
def pk103q : Bool → RL rs103q.cells := fun x => (x, ())
def up103q : RL rs103q.cells → Bool := fun d => d.1
def s103q (k : Nat) (d : AD as103q) := audit_Zero k d.1 d.2.1 d.2.2.1 d.2.2.2.1
def R103q : Nat × Entry := (12, fun k nm args h => entry as103q rs103q (s103q k) pk103q nm args h)
theorem ev103q : EvOK E103q A103q 0 Proofs.Try.f12 as103q rs103q up103q s103q := by intro k d; kernel_rfl
theorem F103q : FnOK Proofs.Try.prog R103q := fn_b B103q ev103q (loops1 lk103_1q)

/-! ### giro/giroref27.Zero -/
noncomputable def E104q : Env := ⟨Proofs.Try.prog, fun _ => false, sumsOf []⟩
def I104_0q : Spec := ⟨[(1, .c (.lit (.ptr 1001000 0))), (3, .c (.int .i64))], [.box true [.dat false y6q, .dat false (.sl (.int .i64)), .dat false (.int .i64), .dat false (.sl (.int .i64))]], []⟩
def X0_104_0q : Spec := ⟨[(1, .c (.lit (.ptr 1001000 0)))], [.box true [.dat false y6q, .dat false (.sl (.int .i64)), .dat false (.int .i64), .dat false (.sl (.int .i64))]], []⟩
def X1_104_0q : Spec := ⟨[(2, .c (.bool))], [], []⟩
def O104_0q : List (Ex × Spec) := [(.exit 0, X0_104_0q), (.ret, X1_104_0q)]
def c104_0q (f : giroref27_Zero_L0T) (d : I104_0q.den) : Option giroref27_Zero_L0X := f d.1.2.1.1 d.2.1.1 d.2.1.2.1 d.2.1.2.2.1 d.2.1.2.2.2.1
def T104_0q : OutD O104_0q → giroref27_Zero_L0X
 | .inl d => .inl (d.2.1.1, d.2.1.2.1, d.2.1.2.2.1, d.2.1.2.2.2.1)
 | .inr d => .inr d.1.1.1
def e104_0q : Elim giroref27_Zero_L0X := fun base x _ K => match x with
 | .inl x => K (.exit 0) (stOf base X0_104_0q (((), ()), ((x.1, x.2.1, x.2.2.1, x.2.2.2, ()), ())))
 | .inr x => K .ret (stOf base X1_104_0q (((x, ()), ()), ()))
def L104_0q : LoopSum := ⟨I104_0q, O104_0q, giroref27_Zero_L0X, fun k d => c104_0q (giroref27_Zero_L0 k k) d, e104_0q⟩
def I104_1q : Spec := ⟨[(1, .c (.lit (.ptr 1001000 0))), (4, .c (.int .i64)), (5, .c (.int .i64))], [.box true [.dat false y6q, .dat false (.sl (.int .i64)), .dat false (.int .i64), .dat false (.sl (.int .i64))]], []⟩
def X0_104_1q : Spec := ⟨[(1, .c (.lit (.ptr 1001000 0))), (4, .c (.int .i64))], [.box true [.dat false y6q, .dat false (.sl (.int .i64)), .dat false (.int .i64), .dat false (.sl (.int .i64))]], []⟩
def X1_104_1q : Spec := ⟨[(2, .c (.bool))], [], []⟩
def O104_1q : List (Ex × Spec) := [(.exit 4, X0_104_1q), (.ret, X1_104_1q)]
def c104_1q (f : giroref27_Zero_L2T) (d : I104_1q.den) : Option giroref27_Zero_L2X := f d.1.2.1.1 d.1.2.2.1.1 d.2.1.1 d.2.1.2.1 d.2.1.2.2.1 d.2.1.2.2.2.1
def T104_1q : OutD O104_1q → giroref27_Zero_L2X
 | .inl d => .inl (d.1.2.1.1, d.2.1.1, d.2.1.2.1, d.2.1.2.2.1, d.2.1.2.2.2.1)
 | .inr d => .inr d.1.1.1
def e104_1q : Elim giroref27_Zero_L2X := fun base x _ K => match x with
 | .inl x => K (.exit 4) (stOf base X0_104_1q (((), (x.1, ()), ()), ((x.2.1, x.2.2.1, x.2.2.2.1, x.2.2.2.2, ()), ())))
 | .inr x => K .ret (stOf base X1_104_1q (((x, ()), ()), ()))
def L104_1q : LoopSum := ⟨I104_1q, O104_1q, giroref27_Zero_L2X, fun k d => c104_1q (giroref27_Zero_L2 k k) d, e104_1q⟩
def I104_2q : Spec := ⟨[(1, .c (.lit (.ptr 1001000 0))), (4, .c (.int .i64))], [.box true [.dat false y6q, .dat false (.sl (.int .i64)), .dat false (.int .i64), .dat false (.sl (.int .i64))]], []⟩
def X0_104_2q : Spec := ⟨[], [], []⟩
def X1_104_2q : Spec := ⟨[(2, .c (.bool))], [], []⟩
def O104_2q : List (Ex × Spec) := [(.exit 2, X0_104_2q), (.ret, X1_104_2q)]
def c104_2q (f : giroref27_Zero_L1T) (d : I104_2q.den) : Option (Unit ⊕ Bool) := f d.1.2.1.1 d.2.1.1 d.2.1.2.1 d.2.1.2.2.1 d.2.1.2.2.2.1
def T104_2q : OutD O104_2q → (Unit ⊕ Bool)
 | .inl d => .inl ()
 | .inr d => .inr d.1.1.1
def e104_2q : Elim (Unit ⊕ Bool) := fun base x _ K => match x with
 | .inl x => K (.exit 2) (stOf base X0_104_2q ((), ()))
 | .inr x => K .ret (stOf base X1_104_2q (((x, ()), ()), ()))
def L104_2q : LoopSum := ⟨I104_2q, O104_2q, (Unit ⊕ Bool), fun k d => c104_2q (giroref27_Zero_L1 k k) d, e104_2q⟩
def A104q : Notes := ⟨[], [(2, L104_0q), (10, L104_1q), (7, L104_2q)]⟩
theorem B104q : EnvB E104q := env_n mixed_orders trivial
theorem st104_0q : StepOK E104q A104q 0 66 (loopAt (bodyOf Proofs.Try.f13) 0) I104_0q O104_0q T104_0q c104_0q giroref27_Zero_L0b := by intro k rec d; kernel_rfl
theorem lk104_0q : LoopOK E104q.P 1000 0 66 (loopAt (bodyOf Proofs.Try.f13) 0) L104_0q := loop_b B104q st104_0q giroref27_Zero_L0 e104_0q (by intro o R K; rcases o with o | o <;> rfl) loops0
theorem st104_1q : StepOK E104q A104q 0 66 (loopAt (loopAt (bodyOf Proofs.Try.f13) 1) 0) I104_1q O104_1q T104_1q c104_1q giroref27_Zero_L2b := by intro k rec d; kernel_rfl
theorem lk104_1q : LoopOK E104q.P 1000 0 66 (loopAt (loopAt (bodyOf Proofs.Try.f13) 1) 0) L104_1q := loop_b B104q st104_1q giroref27_Zero_L2 e104_1q (by intro o R K; rcases o with o | o <;> rfl) loops0
theorem st104_2q : StepOK E104q A104q 0 66 (loopAt (bodyOf Proofs.Try.f13) 1) I104_2q O104_2q T104_2q c104_2q giroref27_Zero_L1b := by intro k rec d; kernel_rfl
theorem lk104_2q : LoopOK E104q.P 1000 0 66 (loopAt (bodyOf Proofs.Try.f13) 1) L104_2q := loop_b B104q st104_2q giroref27_Zero_L1 e104_2q (by intro o R K; rcases o with o | o <;> rfl) (loops1 lk104_1q)
def as104q : List AS := [.agg [.dat false y6q, .dat false (.sl (.int .i64)), .dat false (.int .i64), .dat false (.sl (.int .i64))]]
def rs104q : RS := .c (.bool)
def pk104q : Bool → RL rs104q.cells := fun x => (x, ())
def up104q : RL rs104q.cells → Bool := fun d => d.1
def s104q (k : Nat) (d : AD as104q) := giroref27_Zero k d.1 d.2.1 d.2.2.1 d.2.2.2.1
def R104q : Nat × Entry := (13, fun k nm args h => entry as104q rs104q (s104q k) pk104q nm args h)
theorem ev104q : EvOK E104q A104q 0 Proofs.Try.f13 as104q rs104q up104q s104q := by intro k d; kernel_rfl
theorem F104q : FnOK Proofs.Try.prog R104q := fn_b B104q ev104q (loopsOK_of (n := 2) (by kernel_rfl) fun i hi => match i, hi with | 0, _ => ⟨L104_0q, by kernel_rfl, lk104_0q⟩ | 1, _ => ⟨L104_2q, by kernel_rfl, lk104_2q⟩ | i + 2, hi => absurd hi (by omega))

/-! ### giro/cash.Add -/
noncomputable def E105q : Env := ⟨Proofs.Try.prog, fun _ => false, sumsOf []⟩
def A105q : Notes := ⟨[], []⟩
theorem B105q : EnvB E105q := env_n mixed_orders trivial
def as105q : List AS := [.c (.int .i64), .c (.int .i64)]
def rs105q : RS := .tup [(false, [.int .i64]), (false, [.bool])]
def pk105q : Int × Bool → RL rs105q.cells := fun x => (x.1, x.2, ())
def up105q : RL rs105q.cells → Int × Bool := fun d => (d.1, d.2.1)
def s105q (k : Nat) (d : AD as105q) := cash_Add k d.1 d.2.1
def R105q : Nat × Entry := (44, fun k nm args h => entry as105q rs105q (s105q k) pk105q nm args h)
theorem ev105q : EvOK E105q A105q 0 Proofs.Try.f44 as105q rs105q up105q s105q := by intro k d; kernel_rfl
theorem F105q : FnOK Proofs.Try.prog R105q := fn_0 B105q ev105q

/-! ### giro/audit.isBelow -/
noncomputable def E106q : Env := ⟨Proofs.Try.prog, fun _ => false, sumsOf [R105q]⟩
def A106q : Notes := ⟨[], []⟩
theorem B106q : EnvB E106q := env_n mixed_orders ⟨F105q, trivial⟩
def as106q : List AS := [.agg [.int .i64, .int .i64, .int .i64]]
def rs106q : RS := .c (.bool)
def pk106q : Bool → RL rs106q.cells := fun x => (x, ())
def up106q : RL rs106q.cells → Bool := fun d => d.1
def s106q (k : Nat) (d : AD as106q) := audit_isBelow k d.1 d.2.1 d.2.2.1
def R106q : Nat × Entry := (33, fun k nm args h => entry as106q rs106q (s106q k) pk106q nm args h)
theorem ev106q : EvOK E106q A106q 0 Proofs.Try.f33 as106q rs106q up106q s106q := by intro k d; kernel_rfl
theorem F106q : FnOK Proofs.Try.prog R106q := fn_0 B106q ev106q

/-! ### giro/audit.Floors -/
noncomputable def E107q : Env := ⟨Proofs.Try.prog, fun _ => false, sumsOf [R106q]⟩
def I107_0q : Spec := ⟨[(2, .c (.lit (.ptr 1001000 0))), (15, .c (.dat false y6q)), (16, .c (.int .i64)), (17, .c (.int .i64))], [.box true [.dat false y6q, .dat false (.sl (.int .i64)), .dat false (.int .i64), .dat false (.sl (.int .i64))]], []⟩
def X0_107_0q : Spec := ⟨[], [], []⟩
def X1_107_0q : Spec := ⟨[(4, .c (.bool))], [], []⟩
def O107_0q : List (Ex × Spec) := [(.exit 0, X0_107_0q), (.ret, X1_107_0q)]
def c107_0q (f : audit_Floors_L0T) (d : I107_0q.den) : Option (Unit ⊕ Bool) := f d.1.2.1.1 d.1.2.2.1.1 d.1.2.2.2.1.1 d.2.1.1 d.2.1.2.1 d.2.1.2.2.1 d.2.1.2.2.2.1
def T107_0q : OutD O107_0q → (Unit ⊕ Bool)
 | .inl d => .inl ()
 | .inr d => .inr d.1.1.1
def e107_0q : Elim (Unit ⊕ Bool) := fun base x _ K => match x with
 | .inl x => K (.exit 0) (stOf base X0_107_0q ((), ()))
 | .inr x => K .ret (stOf base X1_107_0q (((x, ()), ()), ()))
def L107_0q : LoopSum := ⟨I107_0q, O107_0q, (Unit ⊕ Bool), fun k d => c107_0q (audit_Floors_L0 k k) d, e107_0q⟩
def A107q : Notes := ⟨[], [(4, L107_0q)]⟩
theorem B107q : EnvB E107q := env_n mixed_orders ⟨F106q, trivial⟩
theorem st107_0q : StepOK E107q A107q 0 36 (loopAt (bodyOf Proofs.Try.f14) 0) I107_0q O107_0q T107_0q c107_0q audit_Floors_L0b := by intro k rec d; kernel_rfl
theorem lk107_0q : LoopOK E107q.P 1000 0 36 (loopAt (bodyOf Proofs.Try.f14) 0) L107_0q := loop_b B107q st107_0q audit_Floors_L0 e107_0q (by intro o R K; rcases o with o | o <;> rfl) loops0
def as107q : List AS := [.agg [.dat false y6q, .dat false (.sl (.int .i64)), .dat false (.int .i64), .dat false (.sl (.int .i64))], .agg [.dat false y6q, .dat false (.sl (.int .i64)), .dat false (.int .i64), .dat false (.sl (.int .i64))]]
def rs107q : RS := .c (.bool)
def pk107q : Bool → RL rs107q.cells := fun x => (x, ())
def up107q : RL rs107q.cells → Bool := fun d => d.1
def s107q (k : Nat) (d : AD as107q) := audit_Floors k d.1 d.2.1 d.2.2.1 d.2.2.2.1 d.2.2.2.2.1 d.2.2.2.2.2.1 d.2.2.2.2.2.2.1 d.2.2.2.2.2.2.2.1
def R107q : Nat × Entry := (14, fun k nm args h => entry as107q rs107q (s107q k) pk107q nm args h)
theorem ev107q : EvOK E107q A107q 0 Proofs.Try.f14 as107q rs107q up107q s107q := by intro k d; kernel_rfl
theorem F107q : FnOK Proofs.Try.prog R107q := fn_b B107q ev107q (loops1 lk107_0q)

/-! ### giro/giroref27.below -/
noncomputable def E108q : Env := ⟨Proofs.Try.prog, fun _ => false, sumsOf []⟩
def A108q : Notes := ⟨[], []⟩
theorem B108q : EnvB E108q := env_n mixed_orders trivial
def as108q : List AS := [.c (.int .i64), .c (.int .i64)]
def rs108q : RS := .c (.bool)
def pk108q : Bool → RL rs108q.cells := fun x => (x, ())
def up108q : RL rs108q.cells → Bool := fun d => d.1
def s108q (k : Nat) (d : AD as108q) := giroref27_below k d.1 d.2.1
def R108q : Nat × Entry := (34, fun k nm args h => entry as108q rs108q (s108q k) pk108q nm args h)
theorem ev108q : EvOK E108q A108q 0 Proofs.Try.f34 as108q rs108q up108q s108q := by intro k d; kernel_rfl
theorem F108q : FnOK Proofs.Try.prog R108q := fn_0 B108q ev108q

/-! ### giro/giroref27.Floors -/
noncomputable def E109q : Env := ⟨Proofs.Try.prog, fun _ => false, sumsOf [R108q]⟩
def I109_0q : Spec := ⟨[(2, .c (.lit (.ptr 1001000 0))), (3, .c (.lit (.ptr 1001001 0))), (5, .c (.int .i64))], [.box true [.dat false y6q, .dat false (.sl (.int .i64)), .dat false (.int .i64), .dat false (.sl (.int .i64))], .box true [.dat false y6q, .dat false (.sl (.int .i64)), .dat false (.int .i64), .dat false (.sl (.int .i64))]], []⟩
def X0_109_0q : Spec := ⟨[], [], []⟩
def X1_109_0q : Spec := ⟨[(4, .c (.bool))], [], []⟩
def O109_0q : List (Ex × Spec) := [(.exit 0, X0_109_0q), (.ret, X1_109_0q)]
def c109_0q (f : giroref27_Floors_L0T) (d : I109_0q.den) : Option (Unit ⊕ Bool) := f d.1.2.2.1.1 d.2.1.1 d.2.1.2.1 d.2.1.2.2.1 d.2.1.2.2.2.1 d.2.2.1.1 d.2.2.1.2.1 d.2.2.1.2.2.1 d.2.2.1.2.2.2.1
def T109_0q : OutD O109_0q → (Unit ⊕ Bool)
 | .inl d => .inl ()
 | .inr d => .inr d.1.1.1
def e109_0q : Elim (Unit ⊕ Bool) := fun base x _ K => match x with
 | .inl x => K (.exit 0) (stOf base X0_109_0q ((), ()))
 | .inr x => K .ret (stOf base X1_109_0q (((x, ()), ()), ()))
def L109_0q : LoopSum := ⟨I109_0q, O109_0q, (Unit ⊕ Bool), fun k d => c109_0q (giroref27_Floors_L0 k k) d, e109_0q⟩
def A109q : Notes := ⟨[], [(4, L109_0q)]⟩
theorem B109q : EnvB E109q := env_n mixed_orders ⟨F108q, trivial⟩
theorem st109_0q : StepOK E109q A109q 0 42 (loopAt (bodyOf Proofs.Try.f15) 0) I109_0q O109_0q T109_0q c109_0q giroref27_Floors_L0b := by intro k rec d; kernel_rfl
theorem lk109_0q : LoopOK E109q.P 1000 0 42 (loopAt (bodyOf Proofs.Try.f15) 0) L109_0q := loop_b B109q st109_0q giroref27_Floors_L0 e109_0q (by intro o R K; rcases o with o | o <;> rfl) loops0
def as109q : List AS := [.agg [.dat false y6q, .dat false (.sl (.int .i64)), .dat false (.int .i64), .dat false (.sl (.int .i64))], .agg [.dat false y6q, .dat false (.sl (.int .i64)), .dat false (.int .i64), .dat false (.sl (.int .i64))]]
def rs109q : RS := .c (.bool)
def pk109q : Bool → RL rs109q.cells := fun x => (x, ())
def up109q : RL rs109q.cells → Bool := fun d => d.1
def s109q (k : Nat) (d : AD as109q) := giroref27_Floors k d.1 d.2.1 d.2.2.1 d.2.2.2.1 d.2.2.2.2.1 d.2.2.2.2.2.1 d.2.2.2.2.2.2.1 d.2.2.2.2.2.2.2.1
def R109q : Nat × Entry := (15, fun k nm args h => entry as109q rs109q (s109q k) pk109q nm args h)
theorem ev109q : EvOK E109q A109q 0 Proofs.Try.f15 as109q rs109q up109q s109q := by intro k d; kernel_rfl
theorem F109q : FnOK Proofs.Try.prog R109q := fn_b B109q ev109q (loops1 lk109_0q)

/-! ### giro/girolaw27.rules -/
noncomputable def E110q : Env := ⟨Proofs.Try.prog, fun _ => false, sumsOf []⟩
def A110q : Notes := ⟨[], []⟩
theorem B110q : EnvB E110q := env_n mixed_orders trivial
def as110q : List AS := [.c (.int .i64)]
def rs110q : RS := .agg [.int .i64, .own y0q, .int .i64, .int .i64, .int .i64]
def pk110q : Int × (List K5q) × Int × Int × Int → RL rs110q.cells := fun x => (x.1, x.2.1, x.2.2.1, x.2.2.2.1, x.2.2.2.2, ())
def up110q : RL rs110q.cells → Int × (List K5q) × Int × Int × Int := fun d => (d.1, d.2.1, d.2.2.1, d.2.2.2.1, d.2.2.2.2.1)
def s110q (k : Nat) (d : AD as110q) := girolaw27_rules k d.1
def R110q : Nat × Entry := (36, fun k nm args h => entry as110q rs110q (s110q k) pk110q nm args h)
theorem ev110q : EvOK E110q A110q 0 Proofs.Try.f36 as110q rs110q up110q s110q := by intro k d; kernel_rfl
theorem F110q : FnOK Proofs.Try.prog R110q := fn_0 B110q ev110q

/-! ### giro/core.New -/
noncomputable def E111q : Env := ⟨Proofs.Try.prog, fun _ => false, sumsOf [R28q, R27q]⟩
def I111_0q : Spec := ⟨[(1, .c (.lit (.ptr 1001000 0))), (2, .c (.lit (.ptr 1001001 0))), (3, .c (.int .i64)), (4, .c (.lit (.ptr 1001002 0))), (20, .c (.dat false y0q)), (21, .c (.int .i64)), (22, .c (.int .i64))], [.box true [.int .i64, .dat false y0q, .int .i64, .int .i64, .int .i64], .box true [.int .i64, .lit .nsl, .lit .nsl, .lit .nsl, .lit .nsl, .lit .nsl, .lit .nsl, .lit .nsl, .lit .nsl, .int .i64, .bool], .box true [.int .i64, .lit (.osl 1001003 none), .lit (.osl 1001004 none), .lit (.osl 1001005 none), .lit (.osl 1001006 none), .lit (.osl 1001007 none), .lit .nsl, .lit .nsl, .lit .nsl, .int .i64, .bool], .arr true y6q, .mat, .arr true (.int .i64), .mat, .arr true (.int .i64)], [(4, some 5, (.int .i64), false)]⟩
def X0_111_0q : Spec := ⟨[(1, .c (.lit (.ptr 1001000 0))), (2, .c (.lit (.ptr 1001001 0))), (3, .c (.int .i64)), (4, .c (.lit (.ptr 1001002 0)))], [.box true [.int .i64, .dat false y0q, .int .i64, .int .i64, .int .i64], .box true [.int .i64, .lit .nsl, .lit .nsl, .lit .nsl, .lit .nsl, .lit .nsl, .lit .nsl, .lit .nsl, .lit .nsl, .int .i64, .bool], .box true [.int .i64, .lit (.osl 1001003 none), .lit (.osl 1001004 none), .lit (.osl 1001005 none), .lit (.osl 1001006 none), .lit (.osl 1001007 none), .lit .nsl, .lit .nsl, .lit .nsl, .int .i64, .bool], .arr true y6q, .mat, .arr true (.int .i64), .mat, .arr true (.int .i64)], []⟩
def O111_0q : List (Ex × Spec) := [(.exit 0, X0_111_0q)]
def c111_0q (f : core_New_L0T) (d : I111_0q.den) : Option core_New_L0X := f d.1.2.2.1.1 d.1.2.2.2.2.1.1 d.1.2.2.2.2.2.1.1 d.1.2.2.2.2.2.2.1.1 d.2.1.1 d.2.1.2.1 d.2.1.2.2.1 d.2.1.2.2.2.1 d.2.1.2.2.2.2.1 d.2.2.1.1 d.2.2.1.2.1 d.2.2.1.2.2.1 d.2.2.2.1.1 d.2.2.2.1.2.1 d.2.2.2.1.2.2.1 d.2.2.2.2.1 d.2.2.2.2.2.1 d.2.2.2.2.2.2.1 d.2.2.2.2.2.2.2.1 d.2.2.2.2.2.2.2.2.1
def T111_0q : OutD O111_0q → core_New_L0X := fun d => (d.1.2.2.1.1, d.2.1.1, d.2.1.2.1, d.2.1.2.2.1, d.2.1.2.2.2.1, d.2.1.2.2.2.2.1, d.2.2.1.1, d.2.2.1.2.1, d.2.2.1.2.2.1, d.2.2.2.1.1, d.2.2.2.1.2.1, d.2.2.2.1.2.2.1, d.2.2.2.2.1, d.2.2.2.2.2.1, d.2.2.2.2.2.2.1, d.2.2.2.2.2.2.2.1, d.2.2.2.2.2.2.2.2.1)
def e111_0q : Elim core_New_L0X := fun base x _ K => K (.exit 0) (stOf base X0_111_0q (((), (), (x.1, ()), (), ()), ((x.2.1, x.2.2.1, x.2.2.2.1, x.2.2.2.2.1, x.2.2.2.2.2.1, ()), (x.2.2.2.2.2.2.1, x.2.2.2.2.2.2.2.1, x.2.2.2.2.2.2.2.2.1, ()), (x.2.2.2.2.2.2.2.2.2.1, x.2.2.2.2.2.2.2.2.2.2.1, x.2.2.2.2.2.2.2.2.2.2.2.1, ()), x.2.2.2.2.2.2.2.2.2.2.2.2.1, x.2.2.2.2.2.2.2.2.2.2.2.2.2.1, x.2.2.2.2.2.2.2.2.2.2.2.2.2.2.1, x.2.2.2.2.2.2.2.2.2.2.2.2.2.2.2.1, x.2.2.2.2.2.2.2.2.2.2.2.2.2.2.2.2, ())))
def L111_0q : LoopSum := ⟨I111_0q, O111_0q, core_New_L0X, fun k d => c111_0q (core_New_L0 k k) d, e111_0q⟩
def I111_1q : Spec := ⟨[(1, .c (.lit (.ptr 1001000 0))), (2, .c (.lit (.ptr 1001001 0))), (4, .c (.lit (.ptr 1001002 0))), (34, .c (.int .i64)), (35, .c (.int .i64))], [.box true [.int .i64, .dat false y0q, .int .i64, .int .i64, .int .i64], .box true [.int .i64, .lit .nsl, .lit .nsl, .lit .nsl, .lit .nsl, .lit .nsl, .lit .nsl, .lit .nsl, .lit .nsl, .int .i64, .bool], .box true [.int .i64, .lit (.osl 1001003 none), .lit (.osl 1001004 none), .lit (.osl 1001005 none), .lit (.osl 1001006 none), .lit (.osl 1001007 none), .lit (.osl 1001008 none), .lit .nsl, .lit .nsl, .int .i64, .bool], .arr true y6q, .mat, .arr true (.int .i64), .mat, .arr true (.int .i64), .mat], [(4, some 6, (.sl (.int .i64)), true)]⟩
def X0_111_1q : Spec := ⟨[(2, .c (.lit (.ptr 1001000 0))), (4, .c (.lit (.ptr 1001001 0)))], [.box true [.int .i64, .lit .nsl, .lit .nsl, .lit .nsl, .lit .nsl, .lit .nsl, .lit .nsl, .lit .nsl, .lit .nsl, .int .i64, .bool], .box true [.int .i64, .lit (.osl 1001002 none), .lit (.osl 1001003 none), .lit (.osl 1001004 none), .lit (.osl 1001005 none), .lit (.osl 1001006 none), .lit (.osl 1001007 none), .lit .nsl, .lit .nsl, .int .i64, .bool], .arr true y6q, .mat, .arr true (.int .i64), .mat, .arr true (.int .i64), .mat], []⟩
def O111_1q : List (Ex × Spec) := [(.exit 2, X0_111_1q)]
def c111_1q (f : core_New_L1T) (d : I111_1q.den) : Option core_New_L1X := f d.1.2.2.2.1.1 d.1.2.2.2.2.1.1 d.2.1.1 d.2.1.2.1 d.2.1.2.2.1 d.2.1.2.2.2.1 d.2.1.2.2.2.2.1 d.2.2.1.1 d.2.2.1.2.1 d.2.2.1.2.2.1 d.2.2.2.1.1 d.2.2.2.1.2.1 d.2.2.2.1.2.2.1 d.2.2.2.2.1 d.2.2.2.2.2.1 d.2.2.2.2.2.2.1 d.2.2.2.2.2.2.2.1 d.2.2.2.2.2.2.2.2.1 d.2.2.2.2.2.2.2.2.2.1
def T111_1q : OutD O111_1q → core_New_L1X := fun d => (d.2.1.1, d.2.1.2.1, d.2.1.2.2.1, d.2.2.1.1, d.2.2.1.2.1, d.2.2.1.2.2.1, d.2.2.2.1, d.2.2.2.2.1, d.2.2.2.2.2.1, d.2.2.2.2.2.2.1, d.2.2.2.2.2.2.2.1, d.2.2.2.2.2.2.2.2.1)
def e111_1q : Elim core_New_L1X := fun base x _ K => K (.exit 2) (stOf base X0_111_1q (((), (), ()), ((x.1, x.2.1, x.2.2.1, ()), (x.2.2.2.1, x.2.2.2.2.1, x.2.2.2.2.2.1, ()), x.2.2.2.2.2.2.1, x.2.2.2.2.2.2.2.1, x.2.2.2.2.2.2.2.2.1, x.2.2.2.2.2.2.2.2.2.1, x.2.2.2.2.2.2.2.2.2.2.1, x.2.2.2.2.2.2.2.2.2.2.2, ())))
def L111_1q : LoopSum := ⟨I111_1q, O111_1q, core_New_L1X, fun k d => c111_1q (core_New_L1 k k) d, e111_1q⟩
def A111q : Notes := ⟨[43, 44], [(4, L111_0q), (9, L111_1q)]⟩
theorem B111q : EnvB E111q := env_n mixed_orders ⟨F28q, F27q, trivial⟩
theorem st111_0q : StepOK E111q A111q 0 48 (loopAt (bodyOf Proofs.Try.f35) 0) I111_0q O111_0q T111_0q c111_0q core_New_L0b := by intro k rec d; kernel_rfl
theorem lk111_0q : LoopOK E111q.P 1000 0 48 (loopAt (bodyOf Proofs.Try.f35) 0) L111_0q := loop_b B111q st111_0q core_New_L0 e111_0q (fun _ _ _ => rfl) loops0
theorem st111_1q : StepOK E111q A111q 0 48 (loopAt (bodyOf Proofs.Try.f35) 1) I111_1q O111_1q T111_1q c111_1q core_New_L1b := by intro k rec d; kernel_rfl
theorem lk111_1q : LoopOK E111q.P 1000 0 48 (loopAt (bodyOf Proofs.Try.f35) 1) L111_1q := loop_b B111q st111_1q core_New_L1 e111_1q (fun _ _ _ => rfl) loops0
def as111q : List AS := [.agg [.int .i64, .dat false y0q, .int .i64, .int .i64, .int .i64]]
def rs111q : RS := .agg [.int .i64, .own y6q, .mat, .own (.int .i64), .mat, .own (.int .i64), .mat, .own y10q, .own (.int .i64), .int .i64, .bool]
def pk111q : Int × (List K4q) × (List (List Int)) × (List Int) × (List (List Int)) × (List Int) × (List (List Int)) × (List K3q) × (List Int) × Int × Bool → RL rs111q.cells := fun x => (x.1, x.2.1, x.2.2.1, x.2.2.2.1, x.2.2.2.2.1, x.2.2.2.2.2.1, x.2.2.2.2.2.2.1, x.2.2.2.2.2.2.2.1, x.2.2.2.2.2.2.2.2.1, x.2.2.2.2.2.2.2.2.2.1, x.2.2.2.2.2.2.2.2.2.2, ())
def up111q : RL rs111q.cells → Int × (List K4q) × (List (List Int)) × (List Int) × (List (List Int)) × (List Int) × (List (List Int)) × (List K3q) × (List Int) × Int × Bool := fun d => (d.1, d.2.1, d.2.2.1, d.2.2.2.1, d.2.2.2.2.1, d.2.2.2.2.2.1, d.2.2.2.2.2.2.1, d.2.2.2.2.2.2.2.1, d.2.2.2.2.2.2.2.2.1, d.2.2.2.2.2.2.2.2.2.1, d.2.2.2.2.2.2.2.2.2.2.1)
def s111q (k : Nat) (d : AD as111q) := core_New k d.1 d.2.1 d.2.2.1 d.2.2.2.1 d.2.2.2.2.1
def R111q : Nat × Entry := (35, fun k nm args h => entry as111q rs111q (s111q k) pk111q nm args h)
theorem ev111q : EvOK E111q A111q 0 Proofs.Try.f35 as111q rs111q up111q s111q := by intro k d; kernel_rfl
theorem F111q : FnOK Proofs.Try.prog R111q := fn_b B111q ev111q (loopsOK_of (n := 2) (by kernel_rfl) fun i hi => match i, hi with | 0, _ => ⟨L111_0q, by kernel_rfl, lk111_0q⟩ | 1, _ => ⟨L111_1q, by kernel_rfl, lk111_1q⟩ | i + 2, hi => absurd hi (by omega))

/-! ### giro/core.in -/
noncomputable def E112q : Env := ⟨Proofs.Try.prog, fun _ => false, sumsOf []⟩
def A112q : Notes := ⟨[], []⟩
theorem B112q : EnvB E112q := env_n mixed_orders trivial
def as112q : List AS := [.c (.int .i64), .c (.int .i64), .c (.int .i64)]
def rs112q : RS := .c (.bool)
def pk112q : Bool → RL rs112q.cells := fun x => (x, ())
def up112q : RL rs112q.cells → Bool := fun d => d.1
def s112q (k : Nat) (d : AD as112q) := core_in k d.1 d.2.1 d.2.2.1
def R112q : Nat × Entry := (52, fun k nm args h => entry as112q rs112q (s112q k) pk112q nm args h)
theorem ev112q : EvOK E112q A112q 0 Proofs.Try.f52 as112q rs112q up112q s112q := by intro k d; kernel_rfl
theorem F112q : FnOK Proofs.Try.prog R112q := fn_0 B112q ev112q

/-! ### giro/core.isHeld$1 -/
noncomputable def E113q : Env := ⟨Proofs.Try.prog, fun _ => false, sumsOf [R112q]⟩
def A113q : Notes := ⟨[], []⟩
theorem B113q : EnvB E113q := env_n mixed_orders ⟨F112q, trivial⟩
def as113q : List AS := [.c (.int .i64)]
def rs113q : RS := .c (.bool)
def pk113q : Bool → RL rs113q.cells := fun x => (x, ())
def up113q : RL rs113q.cells → Bool := fun d => d.1
def s113q (k : Nat) (d : AD as113q) := core_isHeld_fn1 k d.1
def R113q : Nat × Entry := (73, fun k nm args h => entry as113q rs113q (s113q k) pk113q nm args h)
theorem ev113q : EvOK E113q A113q 0 Proofs.Try.f73 as113q rs113q up113q s113q := by intro k d; kernel_rfl
theorem F113q : FnOK Proofs.Try.prog R113q := fn_0 B113q ev113q

/-! ### slices.IndexFunc[[]int64,int64] -/
noncomputable def E114q : Env := ⟨Proofs.Try.prog, fun _ => false, sumsOf [R113q]⟩
def I114_0q : Spec := ⟨[(0, .c (.dat false (.int .i64))), (1, .c (.lit (.fn 73 []))), (7, .c (.int .i64)), (8, .c (.int .i64))], [], []⟩
def X0_114_0q : Spec := ⟨[], [], []⟩
def X1_114_0q : Spec := ⟨[(4, .c (.int .i64))], [], []⟩
def O114_0q : List (Ex × Spec) := [(.exit 0, X0_114_0q), (.ret, X1_114_0q)]
def c114_0q (f : slices_IndexFunc_int64__core_isHeld_fn1_L0T) (d : I114_0q.den) : Option (Unit ⊕ Int) := f d.1.1.1 d.1.2.2.1.1 d.1.2.2.2.1.1
def T114_0q : OutD O114_0q → (Unit ⊕ Int)
 | .inl d => .inl ()
 | .inr d => .inr d.1.1.1
def e114_0q : Elim (Unit ⊕ Int) := fun base x _ K => match x with
 | .inl x => K (.exit 0) (stOf base X0_114_0q ((), ()))
 | .inr x => K .ret (stOf base X1_114_0q (((x, ()), ()), ()))
def L114_0q : LoopSum := ⟨I114_0q, O114_0q, (Unit ⊕ Int), fun k d => c114_0q (slices_IndexFunc_int64__core_isHeld_fn1_L0 k k) d, e114_0q⟩
def A114q : Notes := ⟨[], [(2, L114_0q)]⟩
theorem B114q : EnvB E114q := env_n mixed_orders ⟨F113q, trivial⟩
theorem st114_0q : StepOK E114q A114q 0 19 (loopAt (bodyOf Proofs.Try.f99) 0) I114_0q O114_0q T114_0q c114_0q slices_IndexFunc_int64__core_isHeld_fn1_L0b := by intro k rec d; kernel_rfl
theorem lk114_0q : LoopOK E114q.P 1000 0 19 (loopAt (bodyOf Proofs.Try.f99) 0) L114_0q := loop_b B114q st114_0q slices_IndexFunc_int64__core_isHeld_fn1_L0 e114_0q (by intro o R K; rcases o with o | o <;> rfl) loops0
def as114q : List AS := [.c (.dat false (.int .i64)), .c (.fn 73)]
def rs114q : RS := .c (.int .i64)
def pk114q : Int → RL rs114q.cells := fun x => (x, ())
def up114q : RL rs114q.cells → Int := fun d => d.1
def s114q (k : Nat) (d : AD as114q) := slices_IndexFunc_int64__core_isHeld_fn1 k d.1
def R114q : Nat × Entry := (99, fun k nm args h => entry as114q rs114q (s114q k) pk114q nm args h)
theorem ev114q : EvOK E114q A114q 0 Proofs.Try.f99 as114q rs114q up114q s114q := by intro k d; kernel_rfl
theorem F114q : FnOK Proofs.Try.prog R114q := fn_b B114q ev114q (loops1 lk114_0q)

/-! ### slices.ContainsFunc[[]int64,int64] -/
noncomputable def E115q : Env := ⟨Proofs.Try.prog, fun _ => false, sumsOf [R114q]⟩
def A115q : Notes := ⟨[], []⟩
theorem B115q : EnvB E115q := env_n mixed_orders ⟨F114q, trivial⟩
def as115q : List AS := [.c (.dat false (.int .i64)), .c (.fn 73)]
def rs115q : RS := .c (.bool)
def pk115q : Bool → RL rs115q.cells := fun x => (x, ())
def up115q : RL rs115q.cells → Bool := fun d => d.1
def s115q (k : Nat) (d : AD as115q) := slices_ContainsFunc_int64__core_isHeld_fn1 k d.1
def R115q : Nat × Entry := (72, fun k nm args h => entry as115q rs115q (s115q k) pk115q nm args h)
theorem ev115q : EvOK E115q A115q 0 Proofs.Try.f72 as115q rs115q up115q s115q := by intro k d; kernel_rfl
theorem F115q : FnOK Proofs.Try.prog R115q := fn_0 B115q ev115q

/-! ### giro/cash.isCut -/
noncomputable def E116q : Env := ⟨Proofs.Try.prog, fun _ => false, sumsOf []⟩
def A116q : Notes := ⟨[], []⟩
theorem B116q : EnvB E116q := env_n mixed_orders trivial
def as116q : List AS := [.c (.int .i64)]
def rs116q : RS := .c (.bool)
def pk116q : Bool → RL rs116q.cells := fun x => (x, ())
def up116q : RL rs116q.cells → Bool := fun d => d.1
def s116q (k : Nat) (d : AD as116q) := cash_isCut k d.1
def R116q : Nat × Entry := (115, fun k nm args h => entry as116q rs116q (s116q k) pk116q nm args h)
theorem ev116q : EvOK E116q A116q 0 Proofs.Try.f115 as116q rs116q up116q s116q := by intro k d; kernel_rfl
theorem F116q : FnOK Proofs.Try.prog R116q := fn_0 B116q ev116q

/-! ### math/bits.Mul64 -/
noncomputable def E117q : Env := ⟨Proofs.Try.prog, fun _ => false, sumsOf []⟩
def A117q : Notes := ⟨[], []⟩
theorem B117q : EnvB E117q := env_n mixed_orders trivial
def as117q : List AS := [.c (.int .u64), .c (.int .u64)]
def rs117q : RS := .tup [(false, [.int .u64]), (false, [.int .u64])]
def pk117q : Int × Int → RL rs117q.cells := fun x => (x.1, x.2, ())
def up117q : RL rs117q.cells → Int × Int := fun d => (d.1, d.2.1)
def s117q (k : Nat) (d : AD as117q) := math_bits_Mul64 k d.1 d.2.1
def R117q : Nat × Entry := (116, fun k nm args h => entry as117q rs117q (s117q k) pk117q nm args h)
theorem ev117q : EvOK E117q A117q 0 Proofs.Try.f116 as117q rs117q up117q s117q := by intro k d; kernel_rfl
theorem F117q : FnOK Proofs.Try.prog R117q := fn_0 B117q ev117q

/-! ### math/bits.Len64 -/
noncomputable def E118q : Env := ⟨Proofs.Try.prog, fun _ => false, sumsOf []⟩
def A118q : Notes := ⟨[], []⟩
theorem B118q : EnvB E118q := env_n mixed_orders trivial
def as118q : List AS := [.c (.int .u64)]
def rs118q : RS := .c (.int .i64)
def pk118q : Int → RL rs118q.cells := fun x => (x, ())
def up118q : RL rs118q.cells → Int := fun d => d.1
def s118q (k : Nat) (d : AD as118q) := math_bits_Len64 k d.1
def R118q : Nat × Entry := (132, fun k nm args h => entry as118q rs118q (s118q k) pk118q nm args h)
theorem ev118q : EvOK E118q A118q 0 Proofs.Try.f132 as118q rs118q up118q s118q := by intro k d; kernel_rfl
theorem F118q : FnOK Proofs.Try.prog R118q := fn_0 B118q ev118q

/-! ### math/bits.LeadingZeros64 -/
noncomputable def E119q : Env := ⟨Proofs.Try.prog, fun _ => false, sumsOf [R118q]⟩
def A119q : Notes := ⟨[], []⟩
theorem B119q : EnvB E119q := env_n mixed_orders ⟨F118q, trivial⟩
def as119q : List AS := [.c (.int .u64)]
def rs119q : RS := .c (.int .i64)
def pk119q : Int → RL rs119q.cells := fun x => (x, ())
def up119q : RL rs119q.cells → Int := fun d => d.1
def s119q (k : Nat) (d : AD as119q) := math_bits_LeadingZeros64 k d.1
def R119q : Nat × Entry := (129, fun k nm args h => entry as119q rs119q (s119q k) pk119q nm args h)
theorem ev119q : EvOK E119q A119q 0 Proofs.Try.f129 as119q rs119q up119q s119q := by intro k d; kernel_rfl
theorem F119q : FnOK Proofs.Try.prog R119q := fn_0 B119q ev119q

/-! ### math/bits.Div64 -/
noncomputable def E120q : Env := ⟨Proofs.Try.prog, fun _ => false, sumsOf [R119q]⟩
def I120_0q : Spec := ⟨[(2, .c (.int .u64)), (8, .c (.int .u64)), (9, .c (.int .u64)), (10, .c (.int .u64)), (11, .c (.int .u64)), (13, .c (.int .u64)), (14, .c (.int .u64)), (15, .c (.int .u64)), (16, .c (.int .u64))], [], []⟩
def X0_120_0q : Spec := ⟨[(2, .c (.int .u64)), (8, .c (.int .u64)), (9, .c (.int .u64)), (10, .c (.int .u64)), (11, .c (.int .u64)), (13, .c (.int .u64)), (14, .c (.int .u64)), (15, .c (.int .u64))], [], []⟩
def O120_0q : List (Ex × Spec) := [(.exit 0, X0_120_0q)]
def c120_0q (f : math_bits_Div64_L0T) (d : I120_0q.den) : Option math_bits_Div64_L0X := f d.1.1.1 d.1.2.1.1 d.1.2.2.1.1 d.1.2.2.2.1.1 d.1.2.2.2.2.1.1 d.1.2.2.2.2.2.1.1 d.1.2.2.2.2.2.2.1.1 d.1.2.2.2.2.2.2.2.1.1 d.1.2.2.2.2.2.2.2.2.1.1
def T120_0q : OutD O120_0q → math_bits_Div64_L0X := fun d => (d.1.1.1, d.1.2.1.1, d.1.2.2.1.1, d.1.2.2.2.1.1, d.1.2.2.2.2.1.1, d.1.2.2.2.2.2.1.1, d.1.2.2.2.2.2.2.1.1, d.1.2.2.2.2.2.2.2.1.1)
def e120_0q : Elim math_bits_Div64_L0X := fun base x _ K => K (.exit 0) (stOf base X0_120_0q (((x.1, ()), (x.2.1, ()), (x.2.2.1, ()), (x.2.2.2.1, ()), (x.2.2.2.2.1, ()), (x.2.2.2.2.2.1, ()), (x.2.2.2.2.2.2.1, ()), (x.2.2.2.2.2.2.2, ()), ()), ()))
def L120_0q : LoopSum := ⟨I120_0q, O120_0q, math_bits_Div64_L0X, fun k d => c120_0q (math_bits_Div64_L0 k k) d, e120_0q⟩
def I120_1q : Spec := ⟨[(2, .c (.int .u64)), (8, .c (.int .u64)), (9, .c (.int .u64)), (10, .c (.int .u64)), (14, .c (.int .u64)), (15, .c (.int .u64)), (16, .c (.int .u64)), (17, .c (.int .u64)), (18, .c (.int .u64))], [], []⟩
def X0_120_1q : Spec := ⟨[(2, .c (.int .u64)), (8, .c (.int .u64)), (14, .c (.int .u64)), (15, .c (.int .u64)), (17, .c (.int .u64)), (18, .c (.int .u64))], [], []⟩
def O120_1q : List (Ex × Spec) := [(.exit 2, X0_120_1q)]
def c120_1q (f : math_bits_Div64_L1T) (d : I120_1q.den) : Option math_bits_Div64_L1X := f d.1.1.1 d.1.2.1.1 d.1.2.2.1.1 d.1.2.2.2.1.1 d.1.2.2.2.2.1.1 d.1.2.2.2.2.2.1.1 d.1.2.2.2.2.2.2.1.1 d.1.2.2.2.2.2.2.2.1.1 d.1.2.2.2.2.2.2.2.2.1.1
def T120_1q : OutD O120_1q → math_bits_Div64_L1X := fun d => (d.1.1.1, d.1.2.1.1, d.1.2.2.1.1, d.1.2.2.2.1.1, d.1.2.2.2.2.1.1, d.1.2.2.2.2.2.1.1)
def e120_1q : Elim math_bits_Div64_L1X := fun base x _ K => K (.exit 2) (stOf base X0_120_1q (((x.1, ()), (x.2.1, ()), (x.2.2.1, ()), (x.2.2.2.1, ()), (x.2.2.2.2.1, ()), (x.2.2.2.2.2, ()), ()), ()))
def L120_1q : LoopSum := ⟨I120_1q, O120_1q, math_bits_Div64_L1X, fun k d => c120_1q (math_bits_Div64_L1 k k) d, e120_1q⟩
def A120q : Notes := ⟨[], [(17, L120_0q), (24, L120_1q)]⟩
theorem B120q : EnvB E120q := env_n mixed_orders ⟨F119q, trivial⟩
theorem st120_0q : StepOK E120q A120q 0 135 (loopAt (bodyOf Proofs.Try.f117) 0) I120_0q O120_0q T120_0q c120_0q math_bits_Div64_L0b := by intro k rec d; kernel_rfl
theorem lk120_0q : LoopOK E120q.P 1000 0 135 (loopAt (bodyOf Proofs.Try.f117) 0) L120_0q := loop_b B120q st120_0q math_bits_Div64_L0 e120_0q (fun _ _ _ => rfl) loops0
theorem st120_1q : StepOK E120q A120q 0 135 (loopAt (bodyOf Proofs.Try.f117) 1) I120_1q O120_1q T120_1q c120_1q math_bits_Div64_L1b := by intro k rec d; kernel_rfl
theorem lk120_1q : LoopOK E120q.P 1000 0 135 (loopAt (bodyOf Proofs.Try.f117) 1) L120_1q := loop_b B120q st120_1q math_bits_Div64_L1 e120_1q (fun _ _ _ => rfl) loops0
def as120q : List AS := [.c (.int .u64), .c (.int .u64), .c (.int .u64)]
def rs120q : RS := .tup [(false, [.int .u64]), (false, [.int .u64])]
def pk120q : Int × Int → RL rs120q.cells := fun x => (x.1, x.2, ())
def up120q : RL rs120q.cells → Int × Int := fun d => (d.1, d.2.1)
def s120q (k : Nat) (d : AD as120q) := math_bits_Div64 k d.1 d.2.1 d.2.2.1
def R120q : Nat × Entry := (117, fun k nm args h => entry as120q rs120q (s120q k) pk120q nm args h)
theorem ev120q : EvOK E120q A120q 0 Proofs.Try.f117 as120q rs120q up120q s120q := by intro k d; kernel_rfl
theorem F120q : FnOK Proofs.Try.prog R120q := fn_b B120q ev120q (loopsOK_of (n := 2) (by kernel_rfl) fun i hi => match i, hi with | 0, _ => ⟨L120_0q, by kernel_rfl, lk120_0q⟩ | 1, _ => ⟨L120_1q, by kernel_rfl, lk120_1q⟩ | i + 2, hi => absurd hi (by omega))

/-! ### giro/cash.Worth -/
noncomputable def E121q : Env := ⟨Proofs.Try.prog, fun _ => false, sumsOf [R116q, R117q, R120q, R101q]⟩
def A121q : Notes := ⟨[], []⟩
theorem B121q : EnvB E121q := env_n mixed_orders ⟨F116q, F117q, F120q, F101q, trivial⟩
def as121q : List AS := [.c (.int .i64), .c (.int .i64), .c (.int .i64)]
def rs121q : RS := .tup [(false, [.int .i64]), (false, [.bool])]
def pk121q : Int × Bool → RL rs121q.cells := fun x => (x.1, x.2, ())
def up121q : RL rs121q.cells → Int × Bool := fun d => (d.1, d.2.1)
def s121q (k : Nat) (d : AD as121q) := cash_Worth k d.1 d.2.1 d.2.2.1
def R121q : Nat × Entry := (100, fun k nm args h => entry as121q rs121q (s121q k) pk121q nm args h)
theorem ev121q : EvOK E121q A121q 0 Proofs.Try.f100 as121q rs121q up121q s121q := by intro k d; kernel_rfl
theorem F121q : FnOK Proofs.Try.prog R121q := fn_0 B121q ev121q

/-! ### giro/pool.Value -/
noncomputable def E122q : Env := ⟨Proofs.Try.prog, fun _ => false, sumsOf [R121q, R102q]⟩
def I122_0q : Spec := ⟨[(1, .c (.dat false (.int .i64))), (2, .c (.dat false (.int .i64))), (8, .c (.lit (.osl 1001000 none))), (25, .c (.dat false y0q)), (26, .c (.int .i64)), (27, .c (.int .i64))], [.arr true (.int .i64)], [(8, none, (.int .i64), false)]⟩
def X0_122_0q : Spec := ⟨[(8, .c (.lit (.osl 1001000 none)))], [.arr true (.int .i64)], []⟩
def X1_122_0q : Spec := ⟨[(6, .c (.int .i64)), (7, .c (.bool))], [], []⟩
def O122_0q : List (Ex × Spec) := [(.exit 0, X0_122_0q), (.ret, X1_122_0q)]
def c122_0q (f : pool_Value_L0T) (d : I122_0q.den) : Option ((List Int) ⊕ K1q) := f d.1.1.1 d.1.2.1.1 d.1.2.2.2.1.1 d.1.2.2.2.2.1.1 d.1.2.2.2.2.2.1.1 d.2.1
def T122_0q : OutD O122_0q → ((List Int) ⊕ K1q)
 | .inl d => .inl d.2.1
 | .inr d => .inr (d.1.1.1, d.1.2.1.1)
def e122_0q : Elim ((List Int) ⊕ K1q) := fun base x _ K => match x with
 | .inl x => K (.exit 0) (stOf base X0_122_0q (((), ()), (x, ())))
 | .inr x => K .ret (stOf base X1_122_0q (((x.1, ()), (x.2, ()), ()), ()))
def L122_0q : LoopSum := ⟨I122_0q, O122_0q, ((List Int) ⊕ K1q), fun k d => c122_0q (pool_Value_L0 k k) d, e122_0q⟩
def A122q : Notes := ⟨[], [(5, L122_0q)]⟩
theorem B122q : EnvB E122q := env_n mixed_orders ⟨F121q, F102q, trivial⟩
theorem st122_0q : StepOK E122q A122q 0 57 (loopAt (bodyOf Proofs.Try.f74) 0) I122_0q O122_0q T122_0q c122_0q pool_Value_L0b := by intro k rec d; kernel_rfl
theorem lk122_0q : LoopOK E122q.P 1000 0 57 (loopAt (bodyOf Proofs.Try.f74) 0) L122_0q := loop_b B122q st122_0q pool_Value_L0 e122_0q (by intro o R K; rcases o with o | o <;> rfl) loops0
def as122q : List AS := [.c (.dat false y0q), .c (.dat false (.int .i64)), .c (.dat false (.int .i64))]
def rs122q : RS := .tup [(false, [.int .i64]), (false, [.bool])]
def pk122q : Int × Bool → RL rs122q.cells := fun x => (x.1, x.2, ())
def up122q : RL rs122q.cells → Int × Bool := fun d => (d.1, d.2.1)
def s122q (k : Nat) (d : AD as122q) := pool_Value k d.1 d.2.1 d.2.2.1
def R122q : Nat × Entry := (74, fun k nm args h => entry as122q rs122q (s122q k) pk122q nm args h)
theorem ev122q : EvOK E122q A122q 0 Proofs.Try.f74 as122q rs122q up122q s122q := by intro k d; kernel_rfl
theorem F122q : FnOK Proofs.Try.prog R122q := fn_b B122q ev122q (loops1 lk122_0q)

/-! ### giro/core.isHeld$2 -/
noncomputable def E123q : Env := ⟨Proofs.Try.prog, fun _ => false, sumsOf []⟩
def A123q : Notes := ⟨[], []⟩
theorem B123q : EnvB E123q := env_n mixed_orders trivial
def as123q : List AS := [.c (.int .i64)]
def rs123q : RS := .c (.bool)
def pk123q : Bool → RL rs123q.cells := fun x => (x, ())
def up123q : RL rs123q.cells → Bool := fun d => d.1
def s123q (k : Nat) (d : AD as123q) := core_isHeld_fn2 k d.1
def R123q : Nat × Entry := (75, fun k nm args h => entry as123q rs123q (s123q k) pk123q nm args h)
theorem ev123q : EvOK E123q A123q 0 Proofs.Try.f75 as123q rs123q up123q s123q := by intro k d; kernel_rfl
theorem F123q : FnOK Proofs.Try.prog R123q := fn_0 B123q ev123q

/-! ### slices.IndexFunc[[]int64,int64] -/
noncomputable def E124q : Env := ⟨Proofs.Try.prog, fun _ => false, sumsOf [R123q]⟩
def I124_0q : Spec := ⟨[(0, .c (.dat false (.int .i64))), (1, .c (.lit (.fn 75 []))), (7, .c (.int .i64)), (8, .c (.int .i64))], [], []⟩
def X0_124_0q : Spec := ⟨[], [], []⟩
def X1_124_0q : Spec := ⟨[(4, .c (.int .i64))], [], []⟩
def O124_0q : List (Ex × Spec) := [(.exit 0, X0_124_0q), (.ret, X1_124_0q)]
def c124_0q (f : slices_IndexFunc_int64__core_isHeld_fn2_L0T) (d : I124_0q.den) : Option (Unit ⊕ Int) := f d.1.1.1 d.1.2.2.1.1 d.1.2.2.2.1.1
def T124_0q : OutD O124_0q → (Unit ⊕ Int)
 | .inl d => .inl ()
 | .inr d => .inr d.1.1.1
def e124_0q : Elim (Unit ⊕ Int) := fun base x _ K => match x with
 | .inl x => K (.exit 0) (stOf base X0_124_0q ((), ()))
 | .inr x => K .ret (stOf base X1_124_0q (((x, ()), ()), ()))
def L124_0q : LoopSum := ⟨I124_0q, O124_0q, (Unit ⊕ Int), fun k d => c124_0q (slices_IndexFunc_int64__core_isHeld_fn2_L0 k k) d, e124_0q⟩
def A124q : Notes := ⟨[], [(2, L124_0q)]⟩
theorem B124q : EnvB E124q := env_n mixed_orders ⟨F123q, trivial⟩
theorem st124_0q : StepOK E124q A124q 0 19 (loopAt (bodyOf Proofs.Try.f99) 0) I124_0q O124_0q T124_0q c124_0q slices_IndexFunc_int64__core_isHeld_fn2_L0b := by intro k rec d; kernel_rfl
theorem lk124_0q : LoopOK E124q.P 1000 0 19 (loopAt (bodyOf Proofs.Try.f99) 0) L124_0q := loop_b B124q st124_0q slices_IndexFunc_int64__core_isHeld_fn2_L0 e124_0q (by intro o R K; rcases o with o | o <;> rfl) loops0
def as124q : List AS := [.c (.dat false (.int .i64)), .c (.fn 75)]
def rs124q : RS := .c (.int .i64)
def pk124q : Int → RL rs124q.cells := fun x => (x, ())
def up124q : RL rs124q.cells → Int := fun d => d.1
def s124q (k : Nat) (d : AD as124q) := slices_IndexFunc_int64__core_isHeld_fn2 k d.1
def R124q : Nat × Entry := (99, fun k nm args h => entry as124q rs124q (s124q k) pk124q nm args h)
theorem ev124q : EvOK E124q A124q 0 Proofs.Try.f99 as124q rs124q up124q s124q := by intro k d; kernel_rfl
theorem F124q : FnOK Proofs.Try.prog R124q := fn_b B124q ev124q (loops1 lk124_0q)

/-! ### slices.ContainsFunc[[]int64,int64] -/
noncomputable def E125q : Env := ⟨Proofs.Try.prog, fun _ => false, sumsOf [R124q]⟩
def A125q : Notes := ⟨[], []⟩
theorem B125q : EnvB E125q := env_n mixed_orders ⟨F124q, trivial⟩
def as125q : List AS := [.c (.dat false (.int .i64)), .c (.fn 75)]
def rs125q : RS := .c (.bool)
def pk125q : Bool → RL rs125q.cells := fun x => (x, ())
def up125q : RL rs125q.cells → Bool := fun d => d.1
def s125q (k : Nat) (d : AD as125q) := slices_ContainsFunc_int64__core_isHeld_fn2 k d.1
def R125q : Nat × Entry := (72, fun k nm args h => entry as125q rs125q (s125q k) pk125q nm args h)
theorem ev125q : EvOK E125q A125q 0 Proofs.Try.f72 as125q rs125q up125q s125q := by intro k d; kernel_rfl
theorem F125q : FnOK Proofs.Try.prog R125q := fn_0 B125q ev125q

/-! ### giro/core.isHeld -/
noncomputable def E126q : Env := ⟨Proofs.Try.prog, fun _ => false, sumsOf [R115q, R122q, R125q]⟩
def I126_0q : Spec := ⟨[(2, .c (.lit (.ptr 1001000 0))), (3, .c (.lit (.ptr 1001001 0))), (28, .c (.dat false (.sl (.int .i64)))), (29, .c (.int .i64)), (30, .c (.int .i64))], [.box true [.int .i64, .dat false y0q, .int .i64, .int .i64, .int .i64], .box true [.int .i64, .dat false y6q, .dat false (.sl (.int .i64)), .dat false (.int .i64), .dat false (.sl (.int .i64)), .dat false (.int .i64), .dat false (.sl (.int .i64)), .dat false y10q, .dat false (.int .i64), .int .i64, .bool]], []⟩
def X0_126_0q : Spec := ⟨[], [], []⟩
def X1_126_0q : Spec := ⟨[(4, .c (.bool))], [], []⟩
def O126_0q : List (Ex × Spec) := [(.exit 0, X0_126_0q), (.ret, X1_126_0q)]
def c126_0q (f : core_isHeld_L0T) (d : I126_0q.den) : Option (Unit ⊕ Bool) := f d.1.2.2.1.1 d.1.2.2.2.1.1 d.1.2.2.2.2.1.1 d.2.1.1 d.2.1.2.1 d.2.1.2.2.1 d.2.1.2.2.2.1 d.2.1.2.2.2.2.1 d.2.2.1.1 d.2.2.1.2.1 d.2.2.1.2.2.1 d.2.2.1.2.2.2.1 d.2.2.1.2.2.2.2.1 d.2.2.1.2.2.2.2.2.1 d.2.2.1.2.2.2.2.2.2.1 d.2.2.1.2.2.2.2.2.2.2.1 d.2.2.1.2.2.2.2.2.2.2.2.1 d.2.2.1.2.2.2.2.2.2.2.2.2.1 d.2.2.1.2.2.2.2.2.2.2.2.2.2.1
def T126_0q : OutD O126_0q → (Unit ⊕ Bool)
 | .inl d => .inl ()
 | .inr d => .inr d.1.1.1
def e126_0q : Elim (Unit ⊕ Bool) := fun base x _ K => match x with
 | .inl x => K (.exit 0) (stOf base X0_126_0q ((), ()))
 | .inr x => K .ret (stOf base X1_126_0q (((x, ()), ()), ()))
def L126_0q : LoopSum := ⟨I126_0q, O126_0q, (Unit ⊕ Bool), fun k d => c126_0q (core_isHeld_L0 k k) d, e126_0q⟩
def A126q : Notes := ⟨[], [(6, L126_0q)]⟩
theorem B126q : EnvB E126q := env_n mixed_orders ⟨F115q, F122q, F125q, trivial⟩
theorem st126_0q : StepOK E126q A126q 0 66 (loopAt (bodyOf Proofs.Try.f54) 0) I126_0q O126_0q T126_0q c126_0q core_isHeld_L0b := by intro k rec d; kernel_rfl
theorem lk126_0q : LoopOK E126q.P 1000 0 66 (loopAt (bodyOf Proofs.Try.f54) 0) L126_0q := loop_b B126q st126_0q core_isHeld_L0 e126_0q (by intro o R K; rcases o with o | o <;> rfl) loops0
def as126q : List AS := [.agg [.int .i64, .dat false y0q, .int .i64, .int .i64, .int .i64], .agg [.int .i64, .dat false y6q, .dat false (.sl (.int .i64)), .dat false (.int .i64), .dat false (.sl (.int .i64)), .dat false (.int .i64), .dat false (.sl (.int .i64)), .dat false y10q, .dat false (.int .i64), .int .i64, .bool]]
def rs126q : RS := .c (.bool)
def pk126q : Bool → RL rs126q.cells := fun x => (x, ())
def up126q : RL rs126q.cells → Bool := fun d => d.1
def s126q (k : Nat) (d : AD as126q) := core_isHeld k d.1 d.2.1 d.2.2.1 d.2.2.2.1 d.2.2.2.2.1 d.2.2.2.2.2.1 d.2.2.2.2.2.2.1 d.2.2.2.2.2.2.2.1 d.2.2.2.2.2.2.2.2.1 d.2.2.2.2.2.2.2.2.2.1 d.2.2.2.2.2.2.2.2.2.2.1 d.2.2.2.2.2.2.2.2.2.2.2.1 d.2.2.2.2.2.2.2.2.2.2.2.2.1 d.2.2.2.2.2.2.2.2.2.2.2.2.2.1 d.2.2.2.2.2.2.2.2.2.2.2.2.2.2.1 d.2.2.2.2.2.2.2.2.2.2.2.2.2.2.2.1
def R126q : Nat × Entry := (54, fun k nm args h => entry as126q rs126q (s126q k) pk126q nm args h)
theorem ev126q : EvOK E126q A126q 0 Proofs.Try.f54 as126q rs126q up126q s126q := by intro k d; kernel_rfl
theorem F126q : FnOK Proofs.Try.prog R126q := fn_b B126q ev126q (loops1 lk126_0q)

/-! ### cmp.isNaN[int] -/
noncomputable def E127q : Env := ⟨Proofs.Try.prog, fun _ => false, sumsOf []⟩
def A127q : Notes := ⟨[], []⟩
theorem B127q : EnvB E127q := env_n mixed_orders trivial
def as127q : List AS := [.c (.int .i64)]
def rs127q : RS := .c (.bool)
def pk127q : Bool → RL rs127q.cells := fun x => (x, ())
def up127q : RL rs127q.cells → Bool := fun d => d.1
def s127q (k : Nat) (d : AD as127q) := cmp_isNaN_int k d.1
def R127q : Nat × Entry := (131, fun k nm args h => entry as127q rs127q (s127q k) pk127q nm args h)
theorem ev127q : EvOK E127q A127q 0 Proofs.Try.f131 as127q rs127q up127q s127q := by intro k d; kernel_rfl
theorem F127q : FnOK Proofs.Try.prog R127q := fn_0 B127q ev127q

/-! ### cmp.Compare[int] -/
noncomputable def E128q : Env := ⟨Proofs.Try.prog, fun _ => false, sumsOf [R127q]⟩
def A128q : Notes := ⟨[], []⟩
theorem B128q : EnvB E128q := env_n mixed_orders ⟨F127q, trivial⟩
def as128q : List AS := [.c (.int .i64), .c (.int .i64)]
def rs128q : RS := .c (.int .i64)
def pk128q : Int → RL rs128q.cells := fun x => (x, ())
def up128q : RL rs128q.cells → Int := fun d => d.1
def s128q (k : Nat) (d : AD as128q) := cmp_Compare_int k d.1 d.2.1
def R128q : Nat × Entry := (121, fun k nm args h => entry as128q rs128q (s128q k) pk128q nm args h)
theorem ev128q : EvOK E128q A128q 0 Proofs.Try.f121 as128q rs128q up128q s128q := by intro k d; kernel_rfl
theorem F128q : FnOK Proofs.Try.prog R128q := fn_0 B128q ev128q

/-! ### cmp.Or[int] -/
noncomputable def E129q : Env := ⟨Proofs.Try.prog, fun _ => false, sumsOf []⟩
def I129_0q : Spec := ⟨[(3, .c (.int .i64)), (6, .c (.dat false (.int .i64))), (7, .c (.int .i64)), (8, .c (.int .i64))], [], []⟩
def X0_129_0q : Spec := ⟨[(3, .c (.int .i64))], [], []⟩
def X1_129_0q : Spec := ⟨[(2, .c (.int .i64))], [], []⟩
def O129_0q : List (Ex × Spec) := [(.exit 0, X0_129_0q), (.ret, X1_129_0q)]
def c129_0q (f : cmp_Or_int_L0T) (d : I129_0q.den) : Option (Int ⊕ Int) := f d.1.1.1 d.1.2.1.1 d.1.2.2.1.1 d.1.2.2.2.1.1
def T129_0q : OutD O129_0q → (Int ⊕ Int)
 | .inl d => .inl d.1.1.1
 | .inr d => .inr d.1.1.1
def e129_0q : Elim (Int ⊕ Int) := fun base x _ K => match x with
 | .inl x => K (.exit 0) (stOf base X0_129_0q (((x, ()), ()), ()))
 | .inr x => K .ret (stOf base X1_129_0q (((x, ()), ()), ()))
def L129_0q : LoopSum := ⟨I129_0q, O129_0q, (Int ⊕ Int), fun k d => c129_0q (cmp_Or_int_L0 k k) d, e129_0q⟩
def A129q : Notes := ⟨[], [(3, L129_0q)]⟩
theorem B129q : EnvB E129q := env_n mixed_orders trivial
theorem st129_0q : StepOK E129q A129q 0 18 (loopAt (bodyOf Proofs.Try.f120) 0) I129_0q O129_0q T129_0q c129_0q cmp_Or_int_L0b := by intro k rec d; kernel_rfl
theorem lk129_0q : LoopOK E129q.P 1000 0 18 (loopAt (bodyOf Proofs.Try.f120) 0) L129_0q := loop_b B129q st129_0q cmp_Or_int_L0 e129_0q (by intro o R K; rcases o with o | o <;> rfl) loops0
def as129q : List AS := [.c (.dat false (.int .i64))]
def rs129q : RS := .c (.int .i64)
def pk129q : Int → RL rs129q.cells := fun x => (x, ())
def up129q : RL rs129q.cells → Int := fun d => d.1
def s129q (k : Nat) (d : AD as129q) := cmp_Or_int k d.1
def R129q : Nat × Entry := (120, fun k nm args h => entry as129q rs129q (s129q k) pk129q nm args h)
theorem ev129q : EvOK E129q A129q 0 Proofs.Try.f120 as129q rs129q up129q s129q := by intro k d; kernel_rfl
theorem F129q : FnOK Proofs.Try.prog R129q := fn_b B129q ev129q (loops1 lk129_0q)

/-! ### giro/row.order -/
noncomputable def E130q : Env := ⟨Proofs.Try.prog, fun _ => false, sumsOf [R128q, R129q]⟩
def A130q : Notes := ⟨[], []⟩
theorem B130q : EnvB E130q := env_n mixed_orders ⟨F128q, F129q, trivial⟩
def as130q : List AS := [.agg [.int .i64, .int .i64, .int .i64, .int .i64, .int .i64, .int .i64, .int .i64], .agg [.int .i64, .int .i64, .int .i64, .int .i64, .int .i64, .int .i64, .int .i64]]
def rs130q : RS := .c (.int .i64)
def pk130q : Int → RL rs130q.cells := fun x => (x, ())
def up130q : RL rs130q.cells → Int := fun d => d.1
def s130q (k : Nat) (d : AD as130q) := row_order k d.1 d.2.1 d.2.2.1 d.2.2.2.1 d.2.2.2.2.1 d.2.2.2.2.2.1 d.2.2.2.2.2.2.1 d.2.2.2.2.2.2.2.1 d.2.2.2.2.2.2.2.2.1 d.2.2.2.2.2.2.2.2.2.1 d.2.2.2.2.2.2.2.2.2.2.1 d.2.2.2.2.2.2.2.2.2.2.2.1 d.2.2.2.2.2.2.2.2.2.2.2.2.1 d.2.2.2.2.2.2.2.2.2.2.2.2.2.1
def R130q : Nat × Entry := (103, fun k nm args h => entry as130q rs130q (s130q k) pk130q nm args h)
theorem ev130q : EvOK E130q A130q 0 Proofs.Try.f103 as130q rs130q up130q s130q := by intro k d; kernel_rfl
theorem F130q : FnOK Proofs.Try.prog R130q := fn_0 B130q ev130q

/-! ### slices.IsSortedFunc[[]giro/api.Pay,giro/api.Pay] -/
noncomputable def E131q : Env := ⟨Proofs.Try.prog, fun _ => false, sumsOf [R130q]⟩
def I131_0q : Spec := ⟨[(0, .c (.dat false y10q)), (1, .c (.lit (.fn 103 []))), (5, .c (.int .i64))], [], []⟩
def X0_131_0q : Spec := ⟨[], [], []⟩
def X1_131_0q : Spec := ⟨[(4, .c (.bool))], [], []⟩
def O131_0q : List (Ex × Spec) := [(.exit 0, X0_131_0q), (.ret, X1_131_0q)]
def c131_0q (f : slices_IsSortedFunc_Pay__row_order_L0T) (d : I131_0q.den) : Option (Unit ⊕ Bool) := f d.1.1.1 d.1.2.2.1.1
def T131_0q : OutD O131_0q → (Unit ⊕ Bool)
 | .inl d => .inl ()
 | .inr d => .inr d.1.1.1
def e131_0q : Elim (Unit ⊕ Bool) := fun base x _ K => match x with
 | .inl x => K (.exit 0) (stOf base X0_131_0q ((), ()))
 | .inr x => K .ret (stOf base X1_131_0q (((x, ()), ()), ()))
def L131_0q : LoopSum := ⟨I131_0q, O131_0q, (Unit ⊕ Bool), fun k d => c131_0q (slices_IsSortedFunc_Pay__row_order_L0 k k) d, e131_0q⟩
def A131q : Notes := ⟨[], [(2, L131_0q)]⟩
theorem B131q : EnvB E131q := env_n mixed_orders ⟨F130q, trivial⟩
theorem st131_0q : StepOK E131q A131q 0 25 (loopAt (bodyOf Proofs.Try.f102) 0) I131_0q O131_0q T131_0q c131_0q slices_IsSortedFunc_Pay__row_order_L0b := by intro k rec d; kernel_rfl
theorem lk131_0q : LoopOK E131q.P 1000 0 25 (loopAt (bodyOf Proofs.Try.f102) 0) L131_0q := loop_b B131q st131_0q slices_IsSortedFunc_Pay__row_order_L0 e131_0q (by intro o R K; rcases o with o | o <;> rfl) loops0
def as131q : List AS := [.c (.dat false y10q), .c (.fn 103)]
def rs131q : RS := .c (.bool)
def pk131q : Bool → RL rs131q.cells := fun x => (x, ())
def up131q : RL rs131q.cells → Bool := fun d => d.1
def s131q (k : Nat) (d : AD as131q) := slices_IsSortedFunc_Pay__row_order k d.1
def R131q : Nat × Entry := (102, fun k nm args h => entry as131q rs131q (s131q k) pk131q nm args h)
theorem ev131q : EvOK E131q A131q 0 Proofs.Try.f102 as131q rs131q up131q s131q := by intro k d; kernel_rfl
theorem F131q : FnOK Proofs.Try.prog R131q := fn_b B131q ev131q (loops1 lk131_0q)

/-! ### giro/row.Is -/
noncomputable def E132q : Env := ⟨Proofs.Try.prog, fun _ => false, sumsOf [R72q, R131q]⟩
def I132_0q : Spec := ⟨[(0, .c (.dat false y10q)), (5, .c (.dat false y10q)), (6, .c (.int .i64)), (7, .c (.int .i64))], [], []⟩
def X0_132_0q : Spec := ⟨[(0, .c (.dat false y10q))], [], []⟩
def X1_132_0q : Spec := ⟨[(2, .c (.bool))], [], []⟩
def O132_0q : List (Ex × Spec) := [(.exit 0, X0_132_0q), (.ret, X1_132_0q)]
def c132_0q (f : row_Is_L0T) (d : I132_0q.den) : Option row_Is_L0X := f d.1.1.1 d.1.2.1.1 d.1.2.2.1.1 d.1.2.2.2.1.1
def T132_0q : OutD O132_0q → row_Is_L0X
 | .inl d => .inl d.1.1.1
 | .inr d => .inr d.1.1.1
def e132_0q : Elim row_Is_L0X := fun base x _ K => match x with
 | .inl x => K (.exit 0) (stOf base X0_132_0q (((x, ()), ()), ()))
 | .inr x => K .ret (stOf base X1_132_0q (((x, ()), ()), ()))
def L132_0q : LoopSum := ⟨I132_0q, O132_0q, row_Is_L0X, fun k d => c132_0q (row_Is_L0 k k) d, e132_0q⟩
def A132q : Notes := ⟨[], [(2, L132_0q)]⟩
theorem B132q : EnvB E132q := env_n mixed_orders ⟨F72q, F131q, trivial⟩
theorem st132_0q : StepOK E132q A132q 0 26 (loopAt (bodyOf Proofs.Try.f79) 0) I132_0q O132_0q T132_0q c132_0q row_Is_L0b := by intro k rec d; kernel_rfl
theorem lk132_0q : LoopOK E132q.P 1000 0 26 (loopAt (bodyOf Proofs.Try.f79) 0) L132_0q := loop_b B132q st132_0q row_Is_L0 e132_0q (by intro o R K; rcases o with o | o <;> rfl) loops0
def as132q : List AS := [.c (.dat false y10q)]
def rs132q : RS := .c (.bool)
def pk132q : Bool → RL rs132q.cells := fun x => (x, ())
def up132q : RL rs132q.cells → Bool := fun d => d.1
def s132q (k : Nat) (d : AD as132q) := row_Is k d.1
def R132q : Nat × Entry := (79, fun k nm args h => entry as132q rs132q (s132q k) pk132q nm args h)
theorem ev132q : EvOK E132q A132q 0 Proofs.Try.f79 as132q rs132q up132q s132q := by intro k d; kernel_rfl
theorem F132q : FnOK Proofs.Try.prog R132q := fn_b B132q ev132q (loops1 lk132_0q)

/-! ### giro/ids.Is -/
noncomputable def E133q : Env := ⟨Proofs.Try.prog, fun _ => false, sumsOf []⟩
def I133_0q : Spec := ⟨[(0, .c (.dat false (.int .i64))), (3, .c (.int .i64)), (6, .c (.dat false (.int .i64))), (7, .c (.int .i64)), (8, .c (.int .i64))], [], []⟩
def X0_133_0q : Spec := ⟨[(0, .c (.dat false (.int .i64)))], [], []⟩
def X1_133_0q : Spec := ⟨[(2, .c (.bool))], [], []⟩
def O133_0q : List (Ex × Spec) := [(.exit 0, X0_133_0q), (.ret, X1_133_0q)]
def c133_0q (f : ids_Is_L0T) (d : I133_0q.den) : Option ((List Int) ⊕ Bool) := f d.1.1.1 d.1.2.1.1 d.1.2.2.1.1 d.1.2.2.2.1.1 d.1.2.2.2.2.1.1
def T133_0q : OutD O133_0q → ((List Int) ⊕ Bool)
 | .inl d => .inl d.1.1.1
 | .inr d => .inr d.1.1.1
def e133_0q : Elim ((List Int) ⊕ Bool) := fun base x _ K => match x with
 | .inl x => K (.exit 0) (stOf base X0_133_0q (((x, ()), ()), ()))
 | .inr x => K .ret (stOf base X1_133_0q (((x, ()), ()), ()))
def L133_0q : LoopSum := ⟨I133_0q, O133_0q, ((List Int) ⊕ Bool), fun k d => c133_0q (ids_Is_L0 k k) d, e133_0q⟩
def A133q : Notes := ⟨[], [(3, L133_0q)]⟩
theorem B133q : EnvB E133q := env_n mixed_orders trivial
theorem st133_0q : StepOK E133q A133q 0 20 (loopAt (bodyOf Proofs.Try.f80) 0) I133_0q O133_0q T133_0q c133_0q ids_Is_L0b := by intro k rec d; kernel_rfl
theorem lk133_0q : LoopOK E133q.P 1000 0 20 (loopAt (bodyOf Proofs.Try.f80) 0) L133_0q := loop_b B133q st133_0q ids_Is_L0 e133_0q (by intro o R K; rcases o with o | o <;> rfl) loops0
def as133q : List AS := [.c (.dat false (.int .i64))]
def rs133q : RS := .c (.bool)
def pk133q : Bool → RL rs133q.cells := fun x => (x, ())
def up133q : RL rs133q.cells → Bool := fun d => d.1
def s133q (k : Nat) (d : AD as133q) := ids_Is k d.1
def R133q : Nat × Entry := (80, fun k nm args h => entry as133q rs133q (s133q k) pk133q nm args h)
theorem ev133q : EvOK E133q A133q 0 Proofs.Try.f80 as133q rs133q up133q s133q := by intro k d; kernel_rfl
theorem F133q : FnOK Proofs.Try.prog R133q := fn_b B133q ev133q (loops1 lk133_0q)

/-! ### cmp.isNaN[int64] -/
noncomputable def E134q : Env := ⟨Proofs.Try.prog, fun _ => false, sumsOf []⟩
def A134q : Notes := ⟨[], []⟩
theorem B134q : EnvB E134q := env_n mixed_orders trivial
def as134q : List AS := [.c (.int .i64)]
def rs134q : RS := .c (.bool)
def pk134q : Bool → RL rs134q.cells := fun x => (x, ())
def up134q : RL rs134q.cells → Bool := fun d => d.1
def s134q (k : Nat) (d : AD as134q) := cmp_isNaN_int64 k d.1
def R134q : Nat × Entry := (130, fun k nm args h => entry as134q rs134q (s134q k) pk134q nm args h)
theorem ev134q : EvOK E134q A134q 0 Proofs.Try.f130 as134q rs134q up134q s134q := by intro k d; kernel_rfl
theorem F134q : FnOK Proofs.Try.prog R134q := fn_0 B134q ev134q

/-! ### cmp.Less[int64] -/
noncomputable def E135q : Env := ⟨Proofs.Try.prog, fun _ => false, sumsOf [R134q]⟩
def A135q : Notes := ⟨[], []⟩
theorem B135q : EnvB E135q := env_n mixed_orders ⟨F134q, trivial⟩
def as135q : List AS := [.c (.int .i64), .c (.int .i64)]
def rs135q : RS := .c (.bool)
def pk135q : Bool → RL rs135q.cells := fun x => (x, ())
def up135q : RL rs135q.cells → Bool := fun d => d.1
def s135q (k : Nat) (d : AD as135q) := cmp_Less_int64 k d.1 d.2.1
def R135q : Nat × Entry := (118, fun k nm args h => entry as135q rs135q (s135q k) pk135q nm args h)
theorem ev135q : EvOK E135q A135q 0 Proofs.Try.f118 as135q rs135q up135q s135q := by intro k d; kernel_rfl
theorem F135q : FnOK Proofs.Try.prog R135q := fn_0 B135q ev135q

/-! ### slices.isNaN[int64] -/
noncomputable def E136q : Env := ⟨Proofs.Try.prog, fun _ => false, sumsOf []⟩
def A136q : Notes := ⟨[], []⟩
theorem B136q : EnvB E136q := env_n mixed_orders trivial
def as136q : List AS := [.c (.int .i64)]
def rs136q : RS := .c (.bool)
def pk136q : Bool → RL rs136q.cells := fun x => (x, ())
def up136q : RL rs136q.cells → Bool := fun d => d.1
def s136q (k : Nat) (d : AD as136q) := slices_isNaN_int64 k d.1
def R136q : Nat × Entry := (119, fun k nm args h => entry as136q rs136q (s136q k) pk136q nm args h)
theorem ev136q : EvOK E136q A136q 0 Proofs.Try.f119 as136q rs136q up136q s136q := by intro k d; kernel_rfl
theorem F136q : FnOK Proofs.Try.prog R136q := fn_0 B136q ev136q

/-! ### slices.BinarySearch[[]int64,int64] -/
noncomputable def E137q : Env := ⟨Proofs.Try.prog, fun _ => false, sumsOf [R135q, R136q]⟩
def I137_0q : Spec := ⟨[(0, .c (.dat false (.int .i64))), (1, .c (.int .i64)), (6, .c (.int .i64)), (7, .c (.int .i64)), (8, .c (.int .i64))], [], []⟩
def X0_137_0q : Spec := ⟨[(0, .c (.dat false (.int .i64))), (1, .c (.int .i64)), (6, .c (.int .i64)), (7, .c (.int .i64))], [], []⟩
def O137_0q : List (Ex × Spec) := [(.exit 0, X0_137_0q)]
def c137_0q (f : slices_BinarySearch_int64_L0T) (d : I137_0q.den) : Option slices_BinarySearch_int64_L0X := f d.1.1.1 d.1.2.1.1 d.1.2.2.1.1 d.1.2.2.2.1.1 d.1.2.2.2.2.1.1
def T137_0q : OutD O137_0q → slices_BinarySearch_int64_L0X := fun d => (d.1.1.1, d.1.2.1.1, d.1.2.2.1.1, d.1.2.2.2.1.1)
def e137_0q : Elim slices_BinarySearch_int64_L0X := fun base x _ K => K (.exit 0) (stOf base X0_137_0q (((x.1, ()), (x.2.1, ()), (x.2.2.1, ()), (x.2.2.2, ()), ()), ()))
def L137_0q : LoopSum := ⟨I137_0q, O137_0q, slices_BinarySearch_int64_L0X, fun k d => c137_0q (slices_BinarySearch_int64_L0 k k) d, e137_0q⟩
def A137q : Notes := ⟨[], [(3, L137_0q)]⟩
theorem B137q : EnvB E137q := env_n mixed_orders ⟨F135q, F136q, trivial⟩
theorem st137_0q : StepOK E137q A137q 0 54 (loopAt (bodyOf Proofs.Try.f101) 0) I137_0q O137_0q T137_0q c137_0q slices_BinarySearch_int64_L0b := by intro k rec d; kernel_rfl
theorem lk137_0q : LoopOK E137q.P 1000 0 54 (loopAt (bodyOf Proofs.Try.f101) 0) L137_0q := loop_b B137q st137_0q slices_BinarySearch_int64_L0 e137_0q (fun _ _ _ => rfl) loops0
def as137q : List AS := [.c (.dat false (.int .i64)), .c (.int .i64)]
def rs137q : RS := .tup [(false, [.int .i64]), (false, [.bool])]
def pk137q : Int × Bool → RL rs137q.cells := fun x => (x.1, x.2, ())
def up137q : RL rs137q.cells → Int × Bool := fun d => (d.1, d.2.1)
def s137q (k : Nat) (d : AD as137q) := slices_BinarySearch_int64 k d.1 d.2.1
def R137q : Nat × Entry := (101, fun k nm args h => entry as137q rs137q (s137q k) pk137q nm args h)
theorem ev137q : EvOK E137q A137q 0 Proofs.Try.f101 as137q rs137q up137q s137q := by intro k d; kernel_rfl
theorem F137q : FnOK Proofs.Try.prog R137q := fn_b B137q ev137q (loops1 lk137_0q)

/-! ### giro/ids.Has -/
noncomputable def E138q : Env := ⟨Proofs.Try.prog, fun _ => false, sumsOf [R137q]⟩
def A138q : Notes := ⟨[], []⟩
theorem B138q : EnvB E138q := env_n mixed_orders ⟨F137q, trivial⟩
def as138q : List AS := [.c (.dat false (.int .i64)), .c (.int .i64)]
def rs138q : RS := .c (.bool)
def pk138q : Bool → RL rs138q.cells := fun x => (x, ())
def up138q : RL rs138q.cells → Bool := fun d => d.1
def s138q (k : Nat) (d : AD as138q) := ids_Has k d.1 d.2.1
def R138q : Nat × Entry := (78, fun k nm args h => entry as138q rs138q (s138q k) pk138q nm args h)
theorem ev138q : EvOK E138q A138q 0 Proofs.Try.f78 as138q rs138q up138q s138q := by intro k d; kernel_rfl
theorem F138q : FnOK Proofs.Try.prog R138q := fn_0 B138q ev138q

/-! ### giro/core.isWaiting$1 -/
noncomputable def E139q : Env := ⟨Proofs.Try.prog, fun _ => false, sumsOf [R22q, R112q, R138q]⟩
def A139q : Notes := ⟨[], []⟩
theorem B139q : EnvB E139q := env_n mixed_orders ⟨F22q, F112q, F138q, trivial⟩
def as139q : List AS := [.agg [.int .i64, .int .i64, .int .i64, .int .i64, .int .i64, .int .i64, .int .i64], .ptr [.int .i64, .dat false y6q, .dat false (.sl (.int .i64)), .dat false (.int .i64), .dat false (.sl (.int .i64)), .dat false (.int .i64), .dat false (.sl (.int .i64)), .dat false y10q, .dat false (.int .i64), .int .i64, .bool]]
def rs139q : RS := .c (.bool)
def pk139q : Bool → RL rs139q.cells := fun x => (x, ())
def up139q : RL rs139q.cells → Bool := fun d => d.1
def s139q (k : Nat) (d : AD as139q) := core_isWaiting_fn1 k d.1 d.2.1 d.2.2.1 d.2.2.2.1 d.2.2.2.2.1 d.2.2.2.2.2.1 d.2.2.2.2.2.2.1 d.2.2.2.2.2.2.2.1 d.2.2.2.2.2.2.2.2.1 d.2.2.2.2.2.2.2.2.2.1 d.2.2.2.2.2.2.2.2.2.2.1 d.2.2.2.2.2.2.2.2.2.2.2.1 d.2.2.2.2.2.2.2.2.2.2.2.2.1 d.2.2.2.2.2.2.2.2.2.2.2.2.2.1 d.2.2.2.2.2.2.2.2.2.2.2.2.2.2.1 d.2.2.2.2.2.2.2.2.2.2.2.2.2.2.2.1 d.2.2.2.2.2.2.2.2.2.2.2.2.2.2.2.2.1 d.2.2.2.2.2.2.2.2.2.2.2.2.2.2.2.2.2.1
def R139q : Nat × Entry := (76, fun k nm args h => entry as139q rs139q (s139q k) pk139q nm args h)
theorem ev139q : EvOK E139q A139q 0 Proofs.Try.f76 as139q rs139q up139q s139q := by intro k d; kernel_rfl
theorem F139q : FnOK Proofs.Try.prog R139q := fn_0 B139q ev139q

/-! ### slices.IndexFunc[[]giro/api.Pay,giro/api.Pay] -/
noncomputable def E140q : Env := ⟨Proofs.Try.prog, fun _ => false, sumsOf [R139q]⟩
def I140_0q : Spec := ⟨[(0, .c (.dat false y10q)), (1, .c (.lit (.fn 76 [1001000]))), (7, .c (.int .i64)), (8, .c (.int .i64))], [.robox [.int .i64, .dat false y6q, .dat false (.sl (.int .i64)), .dat false (.int .i64), .dat false (.sl (.int .i64)), .dat false (.int .i64), .dat false (.sl (.int .i64)), .dat false y10q, .dat false (.int .i64), .int .i64, .bool]], []⟩
def X0_140_0q : Spec := ⟨[], [], []⟩
def X1_140_0q : Spec := ⟨[(4, .c (.int .i64))], [], []⟩
def O140_0q : List (Ex × Spec) := [(.exit 0, X0_140_0q), (.ret, X1_140_0q)]
def c140_0q (f : slices_IndexFunc_Pay__core_isWaiting_fn1_L0T) (d : I140_0q.den) : Option (Unit ⊕ Int) := f d.1.1.1 d.1.2.2.1.1 d.1.2.2.2.1.1 d.2.1.1 d.2.1.2.1 d.2.1.2.2.1 d.2.1.2.2.2.1 d.2.1.2.2.2.2.1 d.2.1.2.2.2.2.2.1 d.2.1.2.2.2.2.2.2.1 d.2.1.2.2.2.2.2.2.2.1 d.2.1.2.2.2.2.2.2.2.2.1 d.2.1.2.2.2.2.2.2.2.2.2.1 d.2.1.2.2.2.2.2.2.2.2.2.2.1
def T140_0q : OutD O140_0q → (Unit ⊕ Int)
 | .inl d => .inl ()
 | .inr d => .inr d.1.1.1
def e140_0q : Elim (Unit ⊕ Int) := fun base x _ K => match x with
 | .inl x => K (.exit 0) (stOf base X0_140_0q ((), ()))
 | .inr x => K .ret (stOf base X1_140_0q (((x, ()), ()), ()))
def L140_0q : LoopSum := ⟨I140_0q, O140_0q, (Unit ⊕ Int), fun k d => c140_0q (slices_IndexFunc_Pay__core_isWaiting_fn1_L0 k k) d, e140_0q⟩
def A140q : Notes := ⟨[], [(2, L140_0q)]⟩
theorem B140q : EnvB E140q := env_n mixed_orders ⟨F139q, trivial⟩
theorem st140_0q : StepOK E140q A140q 0 19 (loopAt (bodyOf Proofs.Try.f104) 0) I140_0q O140_0q T140_0q c140_0q slices_IndexFunc_Pay__core_isWaiting_fn1_L0b := by intro k rec d; kernel_rfl
theorem lk140_0q : LoopOK E140q.P 1000 0 19 (loopAt (bodyOf Proofs.Try.f104) 0) L140_0q := loop_b B140q st140_0q slices_IndexFunc_Pay__core_isWaiting_fn1_L0 e140_0q (by intro o R K; rcases o with o | o <;> rfl) loops0
def as140q : List AS := [.c (.dat false y10q), .fn 76 [[.int .i64, .dat false y6q, .dat false (.sl (.int .i64)), .dat false (.int .i64), .dat false (.sl (.int .i64)), .dat false (.int .i64), .dat false (.sl (.int .i64)), .dat false y10q, .dat false (.int .i64), .int .i64, .bool]]]
def rs140q : RS := .c (.int .i64)
def pk140q : Int → RL rs140q.cells := fun x => (x, ())
def up140q : RL rs140q.cells → Int := fun d => d.1
def s140q (k : Nat) (d : AD as140q) := slices_IndexFunc_Pay__core_isWaiting_fn1 k d.1 d.2.1 d.2.2.1 d.2.2.2.1 d.2.2.2.2.1 d.2.2.2.2.2.1 d.2.2.2.2.2.2.1 d.2.2.2.2.2.2.2.1 d.2.2.2.2.2.2.2.2.1 d.2.2.2.2.2.2.2.2.2.1 d.2.2.2.2.2.2.2.2.2.2.1 d.2.2.2.2.2.2.2.2.2.2.2.1
def R140q : Nat × Entry := (104, fun k nm args h => entry as140q rs140q (s140q k) pk140q nm args h)
theorem ev140q : EvOK E140q A140q 0 Proofs.Try.f104 as140q rs140q up140q s140q := by intro k d; kernel_rfl
theorem F140q : FnOK Proofs.Try.prog R140q := fn_b B140q ev140q (loops1 lk140_0q)

/-! ### slices.ContainsFunc[[]giro/api.Pay,giro/api.Pay] -/
noncomputable def E141q : Env := ⟨Proofs.Try.prog, fun _ => false, sumsOf [R140q]⟩
def A141q : Notes := ⟨[], []⟩
theorem B141q : EnvB E141q := env_n mixed_orders ⟨F140q, trivial⟩
def as141q : List AS := [.c (.dat false y10q), .fn 76 [[.int .i64, .dat false y6q, .dat false (.sl (.int .i64)), .dat false (.int .i64), .dat false (.sl (.int .i64)), .dat false (.int .i64), .dat false (.sl (.int .i64)), .dat false y10q, .dat false (.int .i64), .int .i64, .bool]]]
def rs141q : RS := .c (.bool)
def pk141q : Bool → RL rs141q.cells := fun x => (x, ())
def up141q : RL rs141q.cells → Bool := fun d => d.1
def s141q (k : Nat) (d : AD as141q) := slices_ContainsFunc_Pay__core_isWaiting_fn1 k d.1 d.2.1 d.2.2.1 d.2.2.2.1 d.2.2.2.2.1 d.2.2.2.2.2.1 d.2.2.2.2.2.2.1 d.2.2.2.2.2.2.2.1 d.2.2.2.2.2.2.2.2.1 d.2.2.2.2.2.2.2.2.2.1 d.2.2.2.2.2.2.2.2.2.2.1 d.2.2.2.2.2.2.2.2.2.2.2.1
def R141q : Nat × Entry := (81, fun k nm args h => entry as141q rs141q (s141q k) pk141q nm args h)
theorem ev141q : EvOK E141q A141q 0 Proofs.Try.f81 as141q rs141q up141q s141q := by intro k d; kernel_rfl
theorem F141q : FnOK Proofs.Try.prog R141q := fn_0 B141q ev141q

/-! ### giro/core.isWaiting -/
noncomputable def E142q : Env := ⟨Proofs.Try.prog, fun _ => false, sumsOf [R132q, R133q, R141q]⟩
def A142q : Notes := ⟨[], []⟩
theorem B142q : EnvB E142q := env_n mixed_orders ⟨F132q, F133q, F141q, trivial⟩
def as142q : List AS := [.agg [.int .i64, .dat false y6q, .dat false (.sl (.int .i64)), .dat false (.int .i64), .dat false (.sl (.int .i64)), .dat false (.int .i64), .dat false (.sl (.int .i64)), .dat false y10q, .dat false (.int .i64), .int .i64, .bool]]
def rs142q : RS := .c (.bool)
def pk142q : Bool → RL rs142q.cells := fun x => (x, ())
def up142q : RL rs142q.cells → Bool := fun d => d.1
def s142q (k : Nat) (d : AD as142q) := core_isWaiting k d.1 d.2.1 d.2.2.1 d.2.2.2.1 d.2.2.2.2.1 d.2.2.2.2.2.1 d.2.2.2.2.2.2.1 d.2.2.2.2.2.2.2.1 d.2.2.2.2.2.2.2.2.1 d.2.2.2.2.2.2.2.2.2.1 d.2.2.2.2.2.2.2.2.2.2.1
def R142q : Nat × Entry := (55, fun k nm args h => entry as142q rs142q (s142q k) pk142q nm args h)
theorem ev142q : EvOK E142q A142q 0 Proofs.Try.f55 as142q rs142q up142q s142q := by intro k d; kernel_rfl
theorem F142q : FnOK Proofs.Try.prog R142q := fn_0 B142q ev142q

/-! ### giro/core.Is -/
noncomputable def E143q : Env := ⟨Proofs.Try.prog, fun _ => false, sumsOf [R112q, R67q, R126q, R142q, R102q, R7q]⟩
def I143_0q : Spec := ⟨[(2, .c (.lit (.ptr 1001000 0))), (3, .c (.lit (.ptr 1001001 0))), (5, .c (.lit (.osl 1001002 none))), (44, .c (.dat false y6q)), (45, .c (.int .i64)), (46, .c (.int .i64))], [.box true [.int .i64, .dat false y0q, .int .i64, .int .i64, .int .i64], .box true [.int .i64, .dat false y6q, .dat false (.sl (.int .i64)), .dat false (.int .i64), .dat false (.sl (.int .i64)), .dat false (.int .i64), .dat false (.sl (.int .i64)), .dat false y10q, .dat false (.int .i64), .int .i64, .bool], .arr true (.int .i64)], [(5, none, (.int .i64), false)]⟩
def X0_143_0q : Spec := ⟨[(2, .c (.lit (.ptr 1001000 0))), (3, .c (.lit (.ptr 1001001 0))), (5, .c (.lit (.osl 1001002 none)))], [.box true [.int .i64, .dat false y0q, .int .i64, .int .i64, .int .i64], .box true [.int .i64, .dat false y6q, .dat false (.sl (.int .i64)), .dat false (.int .i64), .dat false (.sl (.int .i64)), .dat false (.int .i64), .dat false (.sl (.int .i64)), .dat false y10q, .dat false (.int .i64), .int .i64, .bool], .arr true (.int .i64)], []⟩
def O143_0q : List (Ex × Spec) := [(.exit 0, X0_143_0q)]
def c143_0q (f : core_Is_L0T) (d : I143_0q.den) : Option core_Is_L0X := f d.1.2.2.2.1.1 d.1.2.2.2.2.1.1 d.1.2.2.2.2.2.1.1 d.2.1.1 d.2.1.2.1 d.2.1.2.2.1 d.2.1.2.2.2.1 d.2.1.2.2.2.2.1 d.2.2.1.1 d.2.2.1.2.1 d.2.2.1.2.2.1 d.2.2.1.2.2.2.1 d.2.2.1.2.2.2.2.1 d.2.2.1.2.2.2.2.2.1 d.2.2.1.2.2.2.2.2.2.1 d.2.2.1.2.2.2.2.2.2.2.1 d.2.2.1.2.2.2.2.2.2.2.2.1 d.2.2.1.2.2.2.2.2.2.2.2.2.1 d.2.2.1.2.2.2.2.2.2.2.2.2.2.1 d.2.2.2.1
def T143_0q : OutD O143_0q → core_Is_L0X := fun d => (d.2.1.1, d.2.1.2.1, d.2.1.2.2.1, d.2.1.2.2.2.1, d.2.1.2.2.2.2.1, d.2.2.1.1, d.2.2.1.2.1, d.2.2.1.2.2.1, d.2.2.1.2.2.2.1, d.2.2.1.2.2.2.2.1, d.2.2.1.2.2.2.2.2.1, d.2.2.1.2.2.2.2.2.2.1, d.2.2.1.2.2.2.2.2.2.2.1, d.2.2.1.2.2.2.2.2.2.2.2.1, d.2.2.1.2.2.2.2.2.2.2.2.2.1, d.2.2.1.2.2.2.2.2.2.2.2.2.2.1, d.2.2.2.1)
def e143_0q : Elim core_Is_L0X := fun base x _ K => K (.exit 0) (stOf base X0_143_0q (((), (), (), ()), ((x.1, x.2.1, x.2.2.1, x.2.2.2.1, x.2.2.2.2.1, ()), (x.2.2.2.2.2.1, x.2.2.2.2.2.2.1, x.2.2.2.2.2.2.2.1, x.2.2.2.2.2.2.2.2.1, x.2.2.2.2.2.2.2.2.2.1, x.2.2.2.2.2.2.2.2.2.2.1, x.2.2.2.2.2.2.2.2.2.2.2.1, x.2.2.2.2.2.2.2.2.2.2.2.2.1, x.2.2.2.2.2.2.2.2.2.2.2.2.2.1, x.2.2.2.2.2.2.2.2.2.2.2.2.2.2.1, x.2.2.2.2.2.2.2.2.2.2.2.2.2.2.2.1, ()), x.2.2.2.2.2.2.2.2.2.2.2.2.2.2.2.2, ())))
def L143_0q : LoopSum := ⟨I143_0q, O143_0q, core_Is_L0X, fun k d => c143_0q (core_Is_L0 k k) d, e143_0q⟩
def A143q : Notes := ⟨[], [(5, L143_0q)]⟩
theorem B143q : EnvB E143q := env_n mixed_orders ⟨F112q, F67q, F126q, F142q, F102q, F7q, trivial⟩
theorem st143_0q : StepOK E143q A143q 0 92 (loopAt (bodyOf Proofs.Try.f47) 0) I143_0q O143_0q T143_0q c143_0q core_Is_L0b := by intro k rec d; kernel_rfl
theorem lk143_0q : LoopOK E143q.P 1000 0 92 (loopAt (bodyOf Proofs.Try.f47) 0) L143_0q := loop_b B143q st143_0q core_Is_L0 e143_0q (fun _ _ _ => rfl) loops0
def as143q : List AS := [.agg [.int .i64, .dat false y0q, .int .i64, .int .i64, .int .i64], .agg [.int .i64, .dat false y6q, .dat false (.sl (.int .i64)), .dat false (.int .i64), .dat false (.sl (.int .i64)), .dat false (.int .i64), .dat false (.sl (.int .i64)), .dat false y10q, .dat false (.int .i64), .int .i64, .bool]]
def rs143q : RS := .c (.bool)
def pk143q : Bool → RL rs143q.cells := fun x => (x, ())
def up143q : RL rs143q.cells → Bool := fun d => d.1
def s143q (k : Nat) (d : AD as143q) := core_Is k d.1 d.2.1 d.2.2.1 d.2.2.2.1 d.2.2.2.2.1 d.2.2.2.2.2.1 d.2.2.2.2.2.2.1 d.2.2.2.2.2.2.2.1 d.2.2.2.2.2.2.2.2.1 d.2.2.2.2.2.2.2.2.2.1 d.2.2.2.2.2.2.2.2.2.2.1 d.2.2.2.2.2.2.2.2.2.2.2.1 d.2.2.2.2.2.2.2.2.2.2.2.2.1 d.2.2.2.2.2.2.2.2.2.2.2.2.2.1 d.2.2.2.2.2.2.2.2.2.2.2.2.2.2.1 d.2.2.2.2.2.2.2.2.2.2.2.2.2.2.2.1
def R143q : Nat × Entry := (47, fun k nm args h => entry as143q rs143q (s143q k) pk143q nm args h)
theorem ev143q : EvOK E143q A143q 0 Proofs.Try.f47 as143q rs143q up143q s143q := by intro k d; kernel_rfl
theorem F143q : FnOK Proofs.Try.prog R143q := fn_b B143q ev143q (loops1 lk143_0q)

/-! ### giro/free.Next -/
noncomputable def E144q : Env := ⟨Proofs.Try.prog, fun _ => false, sumsOf [R69q]⟩
def A144q : Notes := ⟨[], []⟩
theorem B144q : EnvB E144q := env_n mixed_orders ⟨F69q, trivial⟩
def as144q : List AS := [.agg [.dat true y6q, .dat true (.sl (.int .i64)), .dat true (.int .i64), .dat true (.sl (.int .i64))], .c (.dat true y10q), .c (.int .i64)]
def rs144q : RS := .tup [(true, [.int .i64, .int .i64, .int .i64, .int .i64, .int .i64, .int .i64, .int .i64]), (false, [.bool])]
def pk144q : Int × Int × Int × Int × Int × Int × Int × Bool → RL rs144q.cells := fun x => (x.1, x.2.1, x.2.2.1, x.2.2.2.1, x.2.2.2.2.1, x.2.2.2.2.2.1, x.2.2.2.2.2.2.1, x.2.2.2.2.2.2.2, ())
def up144q : RL rs144q.cells → Int × Int × Int × Int × Int × Int × Int × Bool := fun d => (d.1, d.2.1, d.2.2.1, d.2.2.2.1, d.2.2.2.2.1, d.2.2.2.2.2.1, d.2.2.2.2.2.2.1, d.2.2.2.2.2.2.2.1)
def s144q (k : Nat) (d : AD as144q) := free_Next k d.1 d.2.1 d.2.2.1 d.2.2.2.1 d.2.2.2.2.1 d.2.2.2.2.2.1
def R144q : Nat × Entry := (56, fun k nm args h => entry as144q rs144q (s144q k) pk144q nm args h)
theorem ev144q : EvOK E144q A144q 0 Proofs.Try.f56 as144q rs144q up144q s144q := by intro k d; kernel_rfl
theorem F144q : FnOK Proofs.Try.prog R144q := fn_0 B144q ev144q

/-! ### giro/audit.Stuck -/
noncomputable def E145q : Env := ⟨Proofs.Try.prog, fun _ => false, sumsOf [R144q]⟩
def A145q : Notes := ⟨[], []⟩
theorem B145q : EnvB E145q := env_n mixed_orders ⟨F144q, trivial⟩
def as145q : List AS := [.agg [.int .i64, .dat true y6q, .dat true (.sl (.int .i64)), .dat true (.int .i64), .dat true (.sl (.int .i64)), .dat false (.int .i64), .dat false (.sl (.int .i64)), .dat true y10q, .dat false (.int .i64), .int .i64, .bool]]
def rs145q : RS := .c (.bool)
def pk145q : Bool → RL rs145q.cells := fun x => (x, ())
def up145q : RL rs145q.cells → Bool := fun d => d.1
def s145q (k : Nat) (d : AD as145q) := audit_Stuck k d.1 d.2.1 d.2.2.1 d.2.2.2.1 d.2.2.2.2.1 d.2.2.2.2.2.1 d.2.2.2.2.2.2.1 d.2.2.2.2.2.2.2.1 d.2.2.2.2.2.2.2.2.1 d.2.2.2.2.2.2.2.2.2.1 d.2.2.2.2.2.2.2.2.2.2.1
def R145q : Nat × Entry := (48, fun k nm args h => entry as145q rs145q (s145q k) pk145q nm args h)
theorem ev145q : EvOK E145q A145q 0 Proofs.Try.f48 as145q rs145q up145q s145q := by intro k d; kernel_rfl
theorem F145q : FnOK Proofs.Try.prog R145q := fn_0 B145q ev145q

/-! ### giro/audit.State -/
noncomputable def E146q : Env := ⟨Proofs.Try.prog, fun _ => false, sumsOf [R143q, R103q, R145q]⟩
def A146q : Notes := ⟨[], []⟩
theorem B146q : EnvB E146q := env_n mixed_orders ⟨F143q, F103q, F145q, trivial⟩
def as146q : List AS := [.agg [.int .i64, .dat false y0q, .int .i64, .int .i64, .int .i64], .agg [.int .i64, .dat true y6q, .dat true (.sl (.int .i64)), .dat true (.int .i64), .dat true (.sl (.int .i64)), .dat false (.int .i64), .dat false (.sl (.int .i64)), .dat true y10q, .dat false (.int .i64), .int .i64, .bool]]
def rs146q : RS := .c (.bool)
def pk146q : Bool → RL rs146q.cells := fun x => (x, ())
def up146q : RL rs146q.cells → Bool := fun d => d.1
def s146q (k : Nat) (d : AD as146q) := audit_State k d.1 d.2.1 d.2.2.1 d.2.2.2.1 d.2.2.2.2.1 d.2.2.2.2.2.1 d.2.2.2.2.2.2.1 d.2.2.2.2.2.2.2.1 d.2.2.2.2.2.2.2.2.1 d.2.2.2.2.2.2.2.2.2.1 d.2.2.2.2.2.2.2.2.2.2.1 d.2.2.2.2.2.2.2.2.2.2.2.1 d.2.2.2.2.2.2.2.2.2.2.2.2.1 d.2.2.2.2.2.2.2.2.2.2.2.2.2.1 d.2.2.2.2.2.2.2.2.2.2.2.2.2.2.1 d.2.2.2.2.2.2.2.2.2.2.2.2.2.2.2.1
def R146q : Nat × Entry := (37, fun k nm args h => entry as146q rs146q (s146q k) pk146q nm args h)
theorem ev146q : EvOK E146q A146q 0 Proofs.Try.f37 as146q rs146q up146q s146q := by intro k d; kernel_rfl
theorem F146q : FnOK Proofs.Try.prog R146q := fn_0 B146q ev146q

/-! ### giro/audit.Once -/
noncomputable def E147q : Env := ⟨Proofs.Try.prog, fun _ => false, sumsOf []⟩
def I147_0q : Spec := ⟨[(0, .c (.dat false (.pair (.int .i64) y10q))), (6, .c (.int .i64)), (7, .c (.int .i64)), (8, .c (.int .i64)), (11, .c (.dat false (.int .i64))), (12, .c (.int .i64)), (13, .c (.int .i64)), (17, .c (.dat false (.pair (.int .i64) y10q))), (18, .c (.int .i64)), (19, .c (.int .i64))], [], []⟩
def X0_147_0q : Spec := ⟨[(0, .c (.dat false (.pair (.int .i64) y10q))), (7, .c (.int .i64)), (8, .c (.int .i64)), (11, .c (.dat false (.int .i64))), (12, .c (.int .i64)), (13, .c (.int .i64))], [], []⟩
def O147_0q : List (Ex × Spec) := [(.exit 2, X0_147_0q)]
def c147_0q (f : audit_Once_L1T) (d : I147_0q.den) : Option audit_Once_L1X := f d.1.1.1 d.1.2.1.1 d.1.2.2.1.1 d.1.2.2.2.1.1 d.1.2.2.2.2.1.1 d.1.2.2.2.2.2.1.1 d.1.2.2.2.2.2.2.1.1 d.1.2.2.2.2.2.2.2.1.1 d.1.2.2.2.2.2.2.2.2.1.1 d.1.2.2.2.2.2.2.2.2.2.1.1
def T147_0q : OutD O147_0q → audit_Once_L1X := fun d => (d.1.1.1, d.1.2.1.1, d.1.2.2.1.1, d.1.2.2.2.1.1, d.1.2.2.2.2.1.1, d.1.2.2.2.2.2.1.1)
def e147_0q : Elim audit_Once_L1X := fun base x _ K => K (.exit 2) (stOf base X0_147_0q (((x.1, ()), (x.2.1, ()), (x.2.2.1, ()), (x.2.2.2.1, ()), (x.2.2.2.2.1, ()), (x.2.2.2.2.2, ()), ()), ()))
def L147_0q : LoopSum := ⟨I147_0q, O147_0q, audit_Once_L1X, fun k d => c147_0q (audit_Once_L1 k k) d, e147_0q⟩
def I147_1q : Spec := ⟨[(0, .c (.dat false (.pair (.int .i64) y10q))), (11, .c (.dat false (.int .i64))), (12, .c (.int .i64)), (13, .c (.int .i64))], [], []⟩
def X0_147_1q : Spec := ⟨[], [], []⟩
def X1_147_1q : Spec := ⟨[(4, .c (.bool))], [], []⟩
def O147_1q : List (Ex × Spec) := [(.exit 0, X0_147_1q), (.ret, X1_147_1q)]
def c147_1q (f : audit_Once_L0T) (d : I147_1q.den) : Option (Unit ⊕ Bool) := f d.1.1.1 d.1.2.1.1 d.1.2.2.1.1 d.1.2.2.2.1.1
def T147_1q : OutD O147_1q → (Unit ⊕ Bool)
 | .inl d => .inl ()
 | .inr d => .inr d.1.1.1
def e147_1q : Elim (Unit ⊕ Bool) := fun base x _ K => match x with
 | .inl x => K (.exit 0) (stOf base X0_147_1q ((), ()))
 | .inr x => K .ret (stOf base X1_147_1q (((x, ()), ()), ()))
def L147_1q : LoopSum := ⟨I147_1q, O147_1q, (Unit ⊕ Bool), fun k d => c147_1q (audit_Once_L0 k k) d, e147_1q⟩
def A147q : Notes := ⟨[], [(6, L147_0q), (2, L147_1q)]⟩
theorem B147q : EnvB E147q := env_n mixed_orders trivial
theorem st147_0q : StepOK E147q A147q 0 59 (loopAt (loopAt (bodyOf Proofs.Try.f17) 0) 0) I147_0q O147_0q T147_0q c147_0q audit_Once_L1b := by intro k rec d; kernel_rfl
theorem lk147_0q : LoopOK E147q.P 1000 0 59 (loopAt (loopAt (bodyOf Proofs.Try.f17) 0) 0) L147_0q := loop_b B147q st147_0q audit_Once_L1 e147_0q (fun _ _ _ => rfl) loops0
theorem st147_1q : StepOK E147q A147q 0 59 (loopAt (bodyOf Proofs.Try.f17) 0) I147_1q O147_1q T147_1q c147_1q audit_Once_L0b := by intro k rec d; kernel_rfl
theorem lk147_1q : LoopOK E147q.P 1000 0 59 (loopAt (bodyOf Proofs.Try.f17) 0) L147_1q := loop_b B147q st147_1q audit_Once_L0 e147_1q (by intro o R K; rcases o with o | o <;> rfl) (loops1 lk147_0q)
def as147q : List AS := [.c (.dat false (.pair (.int .i64) y10q)), .c (.dat false (.int .i64))]
def rs147q : RS := .c (.bool)
def pk147q : Bool → RL rs147q.cells := fun x => (x, ())
def up147q : RL rs147q.cells → Bool := fun d => d.1
def s147q (k : Nat) (d : AD as147q) := audit_Once k d.1 d.2.1
def R147q : Nat × Entry := (17, fun k nm args h => entry as147q rs147q (s147q k) pk147q nm args h)
theorem ev147q : EvOK E147q A147q 0 Proofs.Try.f17 as147q rs147q up147q s147q := by intro k d; kernel_rfl
theorem F147q : FnOK Proofs.Try.prog R147q := fn_b B147q ev147q (loops1 lk147_1q)

/-! ### giro/girolaw27.known -/
noncomputable def E148q : Env := ⟨Proofs.Try.prog, fun _ => false, sumsOf [R110q, R111q, R146q, R103q, R107q, R147q]⟩
def A148q : Notes := ⟨[], []⟩
theorem B148q : EnvB E148q := env_n mixed_orders ⟨F110q, F111q, F146q, F103q, F107q, F147q, trivial⟩
def as148q : List AS := []
def rs148q : RS := .c (.bool)
def pk148q : Bool → RL rs148q.cells := fun x => (x, ())
def up148q : RL rs148q.cells → Bool := fun d => d.1
def s148q (k : Nat) (d : AD as148q) := girolaw27_known k
def R148q : Nat × Entry := (16, fun k nm args h => entry as148q rs148q (s148q k) pk148q nm args h)
theorem ev148q : EvOK E148q A148q 0 Proofs.Try.f16 as148q rs148q up148q s148q := by intro k d; kernel_rfl
theorem F148q : FnOK Proofs.Try.prog R148q := fn_0 B148q ev148q

/-! ### giro/girolaw27.AuditBooks -/
noncomputable def E_girolaw27_AuditBooks : Env := ⟨Proofs.Try.prog, fun _ => false, sumsOf [R103q, R104q, R107q, R109q, R148q]⟩
def I_girolaw27_AuditBooks_L1 : Spec := ⟨[(2, .c (.lit (.ptr 1001000 0))), (3, .c (.lit (.ptr 1001001 0))), (5, .c (.int .i64)), (6, .c (.int .i64))], [.box true [.dat false y6q, .dat false (.sl (.int .i64)), .dat false (.int .i64), .dat false (.sl (.int .i64))], .box true [.dat false y6q, .dat false (.sl (.int .i64)), .dat false (.int .i64), .dat false (.sl (.int .i64))]], []⟩
def X0_girolaw27_AuditBooks_L1 : Spec := ⟨[(2, .c (.lit (.ptr 1001000 0))), (3, .c (.lit (.ptr 1001001 0))), (5, .c (.int .i64))], [.box true [.dat false y6q, .dat false (.sl (.int .i64)), .dat false (.int .i64), .dat false (.sl (.int .i64))], .box true [.dat false y6q, .dat false (.sl (.int .i64)), .dat false (.int .i64), .dat false (.sl (.int .i64))]], []⟩
def X1_girolaw27_AuditBooks_L1 : Spec := ⟨[(4, .c (.bool))], [], []⟩
def O_girolaw27_AuditBooks_L1 : List (Ex × Spec) := [(.exit 2, X0_girolaw27_AuditBooks_L1), (.ret, X1_girolaw27_AuditBooks_L1)]
def c_girolaw27_AuditBooks_L1 (f : girolaw27_AuditBooks_L1T) (d : I_girolaw27_AuditBooks_L1.den) : Option girolaw27_AuditBooks_L1X := f d.1.2.2.1.1 d.1.2.2.2.1.1 d.2.1.1 d.2.1.2.1 d.2.1.2.2.1 d.2.1.2.2.2.1 d.2.2.1.1 d.2.2.1.2.1 d.2.2.1.2.2.1 d.2.2.1.2.2.2.1
def T_girolaw27_AuditBooks_L1 : OutD O_girolaw27_AuditBooks_L1 → girolaw27_AuditBooks_L1X
 | .inl d => .inl (d.1.2.2.1.1, d.2.1.1, d.2.1.2.1, d.2.1.2.2.1, d.2.1.2.2.2.1, d.2.2.1.1, d.2.2.1.2.1, d.2.2.1.2.2.1, d.2.2.1.2.2.2.1)
 | .inr d => .inr d.1.1.1
def e_girolaw27_AuditBooks_L1 : Elim girolaw27_AuditBooks_L1X := fun base x _ K => match x with
 | .inl x => K (.exit 2) (stOf base X0_girolaw27_AuditBooks_L1 (((), (), (x.1, ()), ()), ((x.2.1, x.2.2.1, x.2.2.2.1, x.2.2.2.2.1, ()), (x.2.2.2.2.2.1, x.2.2.2.2.2.2.1, x.2.2.2.2.2.2.2.1, x.2.2.2.2.2.2.2.2, ()), ())))
 | .inr x => K .ret (stOf base X1_girolaw27_AuditBooks_L1 (((x, ()), ()), ()))
def L_girolaw27_AuditBooks_L1 : LoopSum := ⟨I_girolaw27_AuditBooks_L1, O_girolaw27_AuditBooks_L1, girolaw27_AuditBooks_L1X, fun k d => c_girolaw27_AuditBooks_L1 (girolaw27_AuditBooks_L1 k k) d, e_girolaw27_AuditBooks_L1⟩
def I_girolaw27_AuditBooks_L0 : Spec := ⟨[(2, .c (.lit (.ptr 1001000 0))), (3, .c (.lit (.ptr 1001001 0))), (5, .c (.int .i64))], [.box true [.dat false y6q, .dat false (.sl (.int .i64)), .dat false (.int .i64), .dat false (.sl (.int .i64))], .box true [.dat false y6q, .dat false (.sl (.int .i64)), .dat false (.int .i64), .dat false (.sl (.int .i64))]], []⟩
def X0_girolaw27_AuditBooks_L0 : Spec := ⟨[(2, .c (.lit (.ptr 1001000 0))), (3, .c (.lit (.ptr 1001001 0)))], [.box true [.dat false y6q, .dat false (.sl (.int .i64)), .dat false (.int .i64), .dat false (.sl (.int .i64))], .box true [.dat false y6q, .dat false (.sl (.int .i64)), .dat false (.int .i64), .dat false (.sl (.int .i64))]], []⟩
def X1_girolaw27_AuditBooks_L0 : Spec := ⟨[(4, .c (.bool))], [], []⟩
def O_girolaw27_AuditBooks_L0 : List (Ex × Spec) := [(.exit 0, X0_girolaw27_AuditBooks_L0), (.ret, X1_girolaw27_AuditBooks_L0)]
def c_girolaw27_AuditBooks_L0 (f : girolaw27_AuditBooks_L0T) (d : I_girolaw27_AuditBooks_L0.den) : Option girolaw27_AuditBooks_L0X := f d.1.2.2.1.1 d.2.1.1 d.2.1.2.1 d.2.1.2.2.1 d.2.1.2.2.2.1 d.2.2.1.1 d.2.2.1.2.1 d.2.2.1.2.2.1 d.2.2.1.2.2.2.1
def T_girolaw27_AuditBooks_L0 : OutD O_girolaw27_AuditBooks_L0 → girolaw27_AuditBooks_L0X
 | .inl d => .inl (d.2.1.1, d.2.1.2.1, d.2.1.2.2.1, d.2.1.2.2.2.1, d.2.2.1.1, d.2.2.1.2.1, d.2.2.1.2.2.1, d.2.2.1.2.2.2.1)
 | .inr d => .inr d.1.1.1
def e_girolaw27_AuditBooks_L0 : Elim girolaw27_AuditBooks_L0X := fun base x _ K => match x with
 | .inl x => K (.exit 0) (stOf base X0_girolaw27_AuditBooks_L0 (((), (), ()), ((x.1, x.2.1, x.2.2.1, x.2.2.2.1, ()), (x.2.2.2.2.1, x.2.2.2.2.2.1, x.2.2.2.2.2.2.1, x.2.2.2.2.2.2.2, ()), ())))
 | .inr x => K .ret (stOf base X1_girolaw27_AuditBooks_L0 (((x, ()), ()), ()))
def L_girolaw27_AuditBooks_L0 : LoopSum := ⟨I_girolaw27_AuditBooks_L0, O_girolaw27_AuditBooks_L0, girolaw27_AuditBooks_L0X, fun k d => c_girolaw27_AuditBooks_L0 (girolaw27_AuditBooks_L0 k k) d, e_girolaw27_AuditBooks_L0⟩
def A_girolaw27_AuditBooks : Notes := ⟨[], [(7, L_girolaw27_AuditBooks_L1), (4, L_girolaw27_AuditBooks_L0)]⟩
theorem B_girolaw27_AuditBooks : EnvB E_girolaw27_AuditBooks := env_n mixed_orders ⟨F103q, F104q, F107q, F109q, F148q, trivial⟩
theorem girolaw27_AuditBooks_L1_step : StepOK E_girolaw27_AuditBooks A_girolaw27_AuditBooks 0 81 (loopAt (loopAt (bodyOf Proofs.Try.f4) 0) 0) I_girolaw27_AuditBooks_L1 O_girolaw27_AuditBooks_L1 T_girolaw27_AuditBooks_L1 c_girolaw27_AuditBooks_L1 girolaw27_AuditBooks_L1b := by intro k rec d; kernel_rfl
theorem girolaw27_AuditBooks_L1_ok : LoopOK E_girolaw27_AuditBooks.P 1000 0 81 (loopAt (loopAt (bodyOf Proofs.Try.f4) 0) 0) L_girolaw27_AuditBooks_L1 := loop_b B_girolaw27_AuditBooks girolaw27_AuditBooks_L1_step girolaw27_AuditBooks_L1 e_girolaw27_AuditBooks_L1 (by intro o R K; rcases o with o | o <;> rfl) loops0
theorem girolaw27_AuditBooks_L0_step : StepOK E_girolaw27_AuditBooks A_girolaw27_AuditBooks 0 81 (loopAt (bodyOf Proofs.Try.f4) 0) I_girolaw27_AuditBooks_L0 O_girolaw27_AuditBooks_L0 T_girolaw27_AuditBooks_L0 c_girolaw27_AuditBooks_L0 girolaw27_AuditBooks_L0b := by intro k rec d; kernel_rfl
theorem girolaw27_AuditBooks_L0_ok : LoopOK E_girolaw27_AuditBooks.P 1000 0 81 (loopAt (bodyOf Proofs.Try.f4) 0) L_girolaw27_AuditBooks_L0 := loop_b B_girolaw27_AuditBooks girolaw27_AuditBooks_L0_step girolaw27_AuditBooks_L0 e_girolaw27_AuditBooks_L0 (by intro o R K; rcases o with o | o <;> rfl) (loops1 girolaw27_AuditBooks_L1_ok)
def as_girolaw27_AuditBooks : List AS := [.agg [.dat false y6q, .dat false (.sl (.int .i64)), .dat false (.int .i64), .dat false (.sl (.int .i64))], .agg [.dat false y6q, .dat false (.sl (.int .i64)), .dat false (.int .i64), .dat false (.sl (.int .i64))]]
def rs_girolaw27_AuditBooks : RS := .c (.bool)
def pk_girolaw27_AuditBooks : Bool → RL rs_girolaw27_AuditBooks.cells := fun x => (x, ())
def up_girolaw27_AuditBooks : RL rs_girolaw27_AuditBooks.cells → Bool := fun d => d.1
def s_girolaw27_AuditBooks (k : Nat) (d : AD as_girolaw27_AuditBooks) := girolaw27_AuditBooks k d.1 d.2.1 d.2.2.1 d.2.2.2.1 d.2.2.2.2.1 d.2.2.2.2.2.1 d.2.2.2.2.2.2.1 d.2.2.2.2.2.2.2.1
def R_girolaw27_AuditBooks : Nat × Entry := (4, fun k nm args h => entry as_girolaw27_AuditBooks rs_girolaw27_AuditBooks (s_girolaw27_AuditBooks k) pk_girolaw27_AuditBooks nm args h)
theorem girolaw27_AuditBooks_ev : EvOK E_girolaw27_AuditBooks A_girolaw27_AuditBooks 0 Proofs.Try.f4 as_girolaw27_AuditBooks rs_girolaw27_AuditBooks up_girolaw27_AuditBooks s_girolaw27_AuditBooks := by intro k d; kernel_rfl
theorem F_girolaw27_AuditBooks : FnOK Proofs.Try.prog R_girolaw27_AuditBooks := fn_b B_girolaw27_AuditBooks girolaw27_AuditBooks_ev (loops1 girolaw27_AuditBooks_L0_ok)

end Go.Ab.Gi
