/- The shallow functions are what the program does, printed (abprint.py). -/
import Derived.Test.YtpmkkfbnaohlhaaGiXS
import Derived.Test.YtpmkkfbnaohlhaaProg
set_option linter.unusedVariables false
set_option maxRecDepth 100000
namespace Go.Ab.Gi

theorem mixed_orders : Proofs.Try.prog.follows .mixedOrders = true := by kernel_rfl

/-! ### giro/lim.Net -/
noncomputable def E4q : Env := ⟨Proofs.Try.prog, fun _ => false, sumsOf []⟩
def I4_0q : Spec := ⟨[(5, .c (.int .i64)), (12, .c (.dat false (.int .i64))), (13, .c (.int .i64)), (14, .c (.int .i64))], [], []⟩
def X0_4_0q : Spec := ⟨[(5, .c (.int .i64))], [], []⟩
def O4_0q : List (Ex × Spec) := [(.exit 0, X0_4_0q)]
def c4_0q (f : Int → List Int → Int → Int → Option Int) (d : I4_0q.den) : Option Int := f d.1.1.1 d.1.2.1.1 d.1.2.2.1.1 d.1.2.2.2.1.1
def T4_0q : OutD O4_0q → Int := fun d => d.1.1.1
def e4_0q : Elim Int := fun base x _ K => K (.exit 0) (stOf base X0_4_0q (((x, ()), ()), ()))
def L4_0q : LoopSum := ⟨I4_0q, O4_0q, Int, fun k d => c4_0q (lim_Net_L0 k k) d, e4_0q⟩
def A4q : Notes := ⟨[], [(3, L4_0q)]⟩
theorem B4q : EnvB E4q := env_n mixed_orders trivial
theorem st4_0q : StepOK E4q A4q 0 23 (loopAt (bodyOf Proofs.Try.f16) 0) I4_0q O4_0q T4_0q c4_0q lim_Net_L0b := by intro k rec d; kernel_rfl
theorem lk4_0q : LoopOK E4q.P 1000 0 23 (loopAt (bodyOf Proofs.Try.f16) 0) L4_0q := loop_b B4q st4_0q lim_Net_L0 e4_0q (fun _ _ _ => rfl) loops0
def as4q : List AS := [.agg [.dat false y3q, .dat false (.sl (.int .i64)), .dat false (.int .i64), .dat false (.sl (.int .i64))], .c (.int .i64)]
def rs4q : RS := .c (.int .i64)
def pk4q : Int → RL rs4q.cells := fun x => (x, ())
def up4q : RL rs4q.cells → Int := fun d => d.1
def s4q (k : Nat) (d : AD as4q) := lim_Net k d.1 d.2.1 d.2.2.1 d.2.2.2.1 d.2.2.2.2.1
def R4q : Nat × Entry := (16, fun k nm args h => entry as4q rs4q (s4q k) pk4q nm args h)
theorem ev4q : EvOK E4q A4q 0 Proofs.Try.f16 as4q rs4q up4q s4q := by intro k d; kernel_rfl
theorem F4q : FnOK Proofs.Try.prog R4q := fn_b B4q ev4q (loops1 lk4_0q)

/-! ### giro/lim.isSize -/
noncomputable def E7q : Env := ⟨Proofs.Try.prog, fun _ => false, sumsOf []⟩
def A7q : Notes := ⟨[], []⟩
theorem B7q : EnvB E7q := env_n mixed_orders trivial
def as7q : List AS := [.c (.int .i64)]
def rs7q : RS := .c (.bool)
def pk7q : Bool → RL rs7q.cells := fun x => (x, ())
def up7q : RL rs7q.cells → Bool := fun d => d.1
def s7q (k : Nat) (d : AD as7q) := lim_isSize k d.1
def R7q : Nat × Entry := (68, fun k nm args h => entry as7q rs7q (s7q k) pk7q nm args h)
theorem ev7q : EvOK E7q A7q 0 Proofs.Try.f68 as7q rs7q up7q s7q := by intro k d; kernel_rfl
theorem F7q : FnOK Proofs.Try.prog R7q := fn_0 B7q ev7q

/-! ### giro/lim.Row -/
noncomputable def E8q : Env := ⟨Proofs.Try.prog, fun _ => false, sumsOf [R7q]⟩
def I8_0q : Spec := ⟨[(1, .c (.int .i64)), (5, .c (.lit (.osl 1001000 none))), (13, .c (.int .i64)), (14, .c (.int .i64))], [.arr true (.int .i64)], []⟩
def X0_8_0q : Spec := ⟨[(5, .c (.lit (.osl 1001000 none)))], [.arr true (.int .i64)], []⟩
def O8_0q : List (Ex × Spec) := [(.exit 0, X0_8_0q)]
def c8_0q (f : lim_Row_L0T) (d : I8_0q.den) : Option (List Int) := f d.1.1.1 d.1.2.2.1.1 d.1.2.2.2.1.1 d.2.1
def T8_0q : OutD O8_0q → (List Int) := fun d => d.2.1
def e8_0q : Elim (List Int) := fun base x _ K => K (.exit 0) (stOf base X0_8_0q (((), ()), (x, ())))
def L8_0q : LoopSum := ⟨I8_0q, O8_0q, (List Int), fun k d => c8_0q (lim_Row_L0 k k) d, e8_0q⟩
def A8q : Notes := ⟨[], [(5, L8_0q)]⟩
theorem B8q : EnvB E8q := env_n mixed_orders ⟨F7q, trivial⟩
theorem st8_0q : StepOK E8q A8q 0 23 (loopAt (bodyOf Proofs.Try.f27) 0) I8_0q O8_0q T8_0q c8_0q lim_Row_L0b := by intro k rec d; kernel_rfl
theorem lk8_0q : LoopOK E8q.P 1000 0 23 (loopAt (bodyOf Proofs.Try.f27) 0) L8_0q := loop_b B8q st8_0q lim_Row_L0 e8_0q (fun _ _ _ => rfl) loops0
def as8q : List AS := [.c (.int .i64), .c (.int .i64)]
def rs8q : RS := .c (.own (.int .i64))
def pk8q : List Int → RL rs8q.cells := fun x => (x, ())
def up8q : RL rs8q.cells → List Int := fun d => d.1
def s8q (k : Nat) (d : AD as8q) := lim_Row k d.1 d.2.1
def R8q : Nat × Entry := (27, fun k nm args h => entry as8q rs8q (s8q k) pk8q nm args h)
theorem ev8q : EvOK E8q A8q 0 Proofs.Try.f27 as8q rs8q up8q s8q := by intro k d; kernel_rfl
theorem F8q : FnOK Proofs.Try.prog R8q := fn_b B8q ev8q (loops1 lk8_0q)

/-! ### giro/lim.Square -/
noncomputable def E9q : Env := ⟨Proofs.Try.prog, fun _ => false, sumsOf [R7q, R8q]⟩
def I9_0q : Spec := ⟨[(0, .c (.int .i64)), (1, .c (.int .i64)), (5, .c (.lit (.osl 1001000 none))), (13, .c (.int .i64)), (14, .c (.int .i64))], [.mat], []⟩
def X0_9_0q : Spec := ⟨[(5, .c (.lit (.osl 1001000 none)))], [.mat], []⟩
def O9_0q : List (Ex × Spec) := [(.exit 0, X0_9_0q)]
def c9_0q (f : lim_Square_L0T) (d : I9_0q.den) : Option (List (List Int)) := f d.1.1.1 d.1.2.1.1 d.1.2.2.2.1.1 d.1.2.2.2.2.1.1 d.2.1
def T9_0q : OutD O9_0q → (List (List Int)) := fun d => d.2.1
def e9_0q : Elim (List (List Int)) := fun base x _ K => K (.exit 0) (stOf base X0_9_0q (((), ()), (x, ())))
def L9_0q : LoopSum := ⟨I9_0q, O9_0q, (List (List Int)), fun k d => c9_0q (lim_Square_L0 k k) d, e9_0q⟩
def A9q : Notes := ⟨[11], [(5, L9_0q)]⟩
theorem B9q : EnvB E9q := env_n mixed_orders ⟨F7q, F8q, trivial⟩
theorem st9_0q : StepOK E9q A9q 0 25 (loopAt (bodyOf Proofs.Try.f24) 0) I9_0q O9_0q T9_0q c9_0q lim_Square_L0b := by intro k rec d; kernel_rfl
theorem lk9_0q : LoopOK E9q.P 1000 0 25 (loopAt (bodyOf Proofs.Try.f24) 0) L9_0q := loop_b B9q st9_0q lim_Square_L0 e9_0q (fun _ _ _ => rfl) loops0
def as9q : List AS := [.c (.int .i64), .c (.int .i64)]
def rs9q : RS := .c (.mat)
def pk9q : List (List Int) → RL rs9q.cells := fun x => (x, ())
def up9q : RL rs9q.cells → List (List Int) := fun d => d.1
def s9q (k : Nat) (d : AD as9q) := lim_Square k d.1 d.2.1
def R9q : Nat × Entry := (24, fun k nm args h => entry as9q rs9q (s9q k) pk9q nm args h)
theorem ev9q : EvOK E9q A9q 0 Proofs.Try.f24 as9q rs9q up9q s9q := by intro k d; kernel_rfl
theorem F9q : FnOK Proofs.Try.prog R9q := fn_b B9q ev9q (loops1 lk9_0q)

/-! ### giro/acct.Is -/
noncomputable def E12q : Env := ⟨Proofs.Try.prog, fun _ => false, sumsOf []⟩
def A12q : Notes := ⟨[], []⟩
theorem B12q : EnvB E12q := env_n mixed_orders trivial
def as12q : List AS := [.agg [.int .i64, .int .i64, .int .i64]]
def rs12q : RS := .c (.bool)
def pk12q : Bool → RL rs12q.cells := fun x => (x, ())
def up12q : RL rs12q.cells → Bool := fun d => d.1
def s12q (k : Nat) (d : AD as12q) := acct_Is k d.1 d.2.1 d.2.2.1
def R12q : Nat × Entry := (87, fun k nm args h => entry as12q rs12q (s12q k) pk12q nm args h)
theorem ev12q : EvOK E12q A12q 0 Proofs.Try.f87 as12q rs12q up12q s12q := by intro k d; kernel_rfl
theorem F12q : FnOK Proofs.Try.prog R12q := fn_0 B12q ev12q

/-! ### giro/lim.Is$1 -/
noncomputable def E13q : Env := ⟨Proofs.Try.prog, fun _ => false, sumsOf [R12q]⟩
def A13q : Notes := ⟨[], []⟩
theorem B13q : EnvB E13q := env_n mixed_orders ⟨F12q, trivial⟩
def as13q : List AS := [.agg [.int .i64, .int .i64, .int .i64]]
def rs13q : RS := .c (.bool)
def pk13q : Bool → RL rs13q.cells := fun x => (x, ())
def up13q : RL rs13q.cells → Bool := fun d => d.1
def s13q (k : Nat) (d : AD as13q) := lim_Is_fn1 k d.1 d.2.1 d.2.2.1
def R13q : Nat × Entry := (86, fun k nm args h => entry as13q rs13q (s13q k) pk13q nm args h)
theorem ev13q : EvOK E13q A13q 0 Proofs.Try.f86 as13q rs13q up13q s13q := by intro k d; kernel_rfl
theorem F13q : FnOK Proofs.Try.prog R13q := fn_0 B13q ev13q

/-! ### slices.IndexFunc[[]giro/api.Acct,giro/api.Acct] -/
noncomputable def E14q : Env := ⟨Proofs.Try.prog, fun _ => false, sumsOf [R13q]⟩
def I14_0q : Spec := ⟨[(0, .c (.dat false y3q)), (1, .c (.lit (.fn 86 []))), (7, .c (.int .i64)), (8, .c (.int .i64))], [], []⟩
def X0_14_0q : Spec := ⟨[], [], []⟩
def X1_14_0q : Spec := ⟨[(4, .c (.int .i64))], [], []⟩
def O14_0q : List (Ex × Spec) := [(.exit 0, X0_14_0q), (.ret, X1_14_0q)]
def c14_0q (f : slices_IndexFunc_Acct__lim_Is_fn1_L0T) (d : I14_0q.den) : Option (Unit ⊕ Int) := f d.1.1.1 d.1.2.2.1.1 d.1.2.2.2.1.1
def T14_0q : OutD O14_0q → (Unit ⊕ Int)
 | .inl d => .inl ()
 | .inr d => .inr d.1.1.1
def e14_0q : Elim (Unit ⊕ Int) := fun base x _ K => match x with
 | .inl x => K (.exit 0) (stOf base X0_14_0q ((), ()))
 | .inr x => K .ret (stOf base X1_14_0q (((x, ()), ()), ()))
def L14_0q : LoopSum := ⟨I14_0q, O14_0q, (Unit ⊕ Int), fun k d => c14_0q (slices_IndexFunc_Acct__lim_Is_fn1_L0 k k) d, e14_0q⟩
def A14q : Notes := ⟨[], [(2, L14_0q)]⟩
theorem B14q : EnvB E14q := env_n mixed_orders ⟨F13q, trivial⟩
theorem st14_0q : StepOK E14q A14q 0 19 (loopAt (bodyOf Proofs.Try.f110) 0) I14_0q O14_0q T14_0q c14_0q slices_IndexFunc_Acct__lim_Is_fn1_L0b := by intro k rec d; kernel_rfl
theorem lk14_0q : LoopOK E14q.P 1000 0 19 (loopAt (bodyOf Proofs.Try.f110) 0) L14_0q := loop_b B14q st14_0q slices_IndexFunc_Acct__lim_Is_fn1_L0 e14_0q (by intro o R K; rcases o with o | o <;> rfl) loops0
def as14q : List AS := [.c (.dat false y3q), .c (.fn 86)]
def rs14q : RS := .c (.int .i64)
def pk14q : Int → RL rs14q.cells := fun x => (x, ())
def up14q : RL rs14q.cells → Int := fun d => d.1
def s14q (k : Nat) (d : AD as14q) := slices_IndexFunc_Acct__lim_Is_fn1 k d.1
def R14q : Nat × Entry := (110, fun k nm args h => entry as14q rs14q (s14q k) pk14q nm args h)
theorem ev14q : EvOK E14q A14q 0 Proofs.Try.f110 as14q rs14q up14q s14q := by intro k d; kernel_rfl
theorem F14q : FnOK Proofs.Try.prog R14q := fn_b B14q ev14q (loops1 lk14_0q)

/-! ### slices.ContainsFunc[[]giro/api.Acct,giro/api.Acct] -/
noncomputable def E15q : Env := ⟨Proofs.Try.prog, fun _ => false, sumsOf [R14q]⟩
def A15q : Notes := ⟨[], []⟩
theorem B15q : EnvB E15q := env_n mixed_orders ⟨F14q, trivial⟩
def as15q : List AS := [.c (.dat false y3q), .c (.fn 86)]
def rs15q : RS := .c (.bool)
def pk15q : Bool → RL rs15q.cells := fun x => (x, ())
def up15q : RL rs15q.cells → Bool := fun d => d.1
def s15q (k : Nat) (d : AD as15q) := slices_ContainsFunc_Acct__lim_Is_fn1 k d.1
def R15q : Nat × Entry := (88, fun k nm args h => entry as15q rs15q (s15q k) pk15q nm args h)
theorem ev15q : EvOK E15q A15q 0 Proofs.Try.f88 as15q rs15q up15q s15q := by intro k d; kernel_rfl
theorem F15q : FnOK Proofs.Try.prog R15q := fn_0 B15q ev15q

/-! ### giro/lim.isLimit -/
noncomputable def E16q : Env := ⟨Proofs.Try.prog, fun _ => false, sumsOf []⟩
def A16q : Notes := ⟨[], []⟩
theorem B16q : EnvB E16q := env_n mixed_orders trivial
def as16q : List AS := [.c (.int .i64)]
def rs16q : RS := .c (.bool)
def pk16q : Bool → RL rs16q.cells := fun x => (x, ())
def up16q : RL rs16q.cells → Bool := fun d => d.1
def s16q (k : Nat) (d : AD as16q) := lim_isLimit k d.1
def R16q : Nat × Entry := (90, fun k nm args h => entry as16q rs16q (s16q k) pk16q nm args h)
theorem ev16q : EvOK E16q A16q 0 Proofs.Try.f90 as16q rs16q up16q s16q := by intro k d; kernel_rfl
theorem F16q : FnOK Proofs.Try.prog R16q := fn_0 B16q ev16q

/-! ### giro/lim.isRow$1 -/
noncomputable def E17q : Env := ⟨Proofs.Try.prog, fun _ => false, sumsOf [R16q]⟩
def A17q : Notes := ⟨[], []⟩
theorem B17q : EnvB E17q := env_n mixed_orders ⟨F16q, trivial⟩
def as17q : List AS := [.c (.int .i64), .ptr [.fn 90]]
def rs17q : RS := .c (.bool)
def pk17q : Bool → RL rs17q.cells := fun x => (x, ())
def up17q : RL rs17q.cells → Bool := fun d => d.1
def s17q (k : Nat) (d : AD as17q) := lim_isRow_fn1__lim_isLimit k d.1
def R17q : Nat × Entry := (112, fun k nm args h => entry as17q rs17q (s17q k) pk17q nm args h)
theorem ev17q : EvOK E17q A17q 0 Proofs.Try.f112 as17q rs17q up17q s17q := by intro k d; kernel_rfl
theorem F17q : FnOK Proofs.Try.prog R17q := fn_0 B17q ev17q

/-! ### slices.IndexFunc[[]int64,int64] -/
noncomputable def E18q : Env := ⟨Proofs.Try.prog, fun _ => false, sumsOf [R17q]⟩
def I18_0q : Spec := ⟨[(0, .c (.dat false (.int .i64))), (1, .c (.lit (.fn 112 [1001000]))), (7, .c (.int .i64)), (8, .c (.int .i64))], [.robox [.lit (.fn 90 [])]], []⟩
def X0_18_0q : Spec := ⟨[], [], []⟩
def X1_18_0q : Spec := ⟨[(4, .c (.int .i64))], [], []⟩
def O18_0q : List (Ex × Spec) := [(.exit 0, X0_18_0q), (.ret, X1_18_0q)]
def c18_0q (f : slices_IndexFunc_int64__lim_isRow_fn1__lim_isLimit_L0T) (d : I18_0q.den) : Option (Unit ⊕ Int) := f d.1.1.1 d.1.2.2.1.1 d.1.2.2.2.1.1
def T18_0q : OutD O18_0q → (Unit ⊕ Int)
 | .inl d => .inl ()
 | .inr d => .inr d.1.1.1
def e18_0q : Elim (Unit ⊕ Int) := fun base x _ K => match x with
 | .inl x => K (.exit 0) (stOf base X0_18_0q ((), ()))
 | .inr x => K .ret (stOf base X1_18_0q (((x, ()), ()), ()))
def L18_0q : LoopSum := ⟨I18_0q, O18_0q, (Unit ⊕ Int), fun k d => c18_0q (slices_IndexFunc_int64__lim_isRow_fn1__lim_isLimit_L0 k k) d, e18_0q⟩
def A18q : Notes := ⟨[], [(2, L18_0q)]⟩
theorem B18q : EnvB E18q := env_n mixed_orders ⟨F17q, trivial⟩
theorem st18_0q : StepOK E18q A18q 0 19 (loopAt (bodyOf Proofs.Try.f129) 0) I18_0q O18_0q T18_0q c18_0q slices_IndexFunc_int64__lim_isRow_fn1__lim_isLimit_L0b := by intro k rec d; kernel_rfl
theorem lk18_0q : LoopOK E18q.P 1000 0 19 (loopAt (bodyOf Proofs.Try.f129) 0) L18_0q := loop_b B18q st18_0q slices_IndexFunc_int64__lim_isRow_fn1__lim_isLimit_L0 e18_0q (by intro o R K; rcases o with o | o <;> rfl) loops0
def as18q : List AS := [.c (.dat false (.int .i64)), .fn 112 [[.fn 90]]]
def rs18q : RS := .c (.int .i64)
def pk18q : Int → RL rs18q.cells := fun x => (x, ())
def up18q : RL rs18q.cells → Int := fun d => d.1
def s18q (k : Nat) (d : AD as18q) := slices_IndexFunc_int64__lim_isRow_fn1__lim_isLimit k d.1
def R18q : Nat × Entry := (129, fun k nm args h => entry as18q rs18q (s18q k) pk18q nm args h)
theorem ev18q : EvOK E18q A18q 0 Proofs.Try.f129 as18q rs18q up18q s18q := by intro k d; kernel_rfl
theorem F18q : FnOK Proofs.Try.prog R18q := fn_b B18q ev18q (loops1 lk18_0q)

/-! ### slices.ContainsFunc[[]int64,int64] -/
noncomputable def E19q : Env := ⟨Proofs.Try.prog, fun _ => false, sumsOf [R18q]⟩
def A19q : Notes := ⟨[], []⟩
theorem B19q : EnvB E19q := env_n mixed_orders ⟨F18q, trivial⟩
def as19q : List AS := [.c (.dat false (.int .i64)), .fn 112 [[.fn 90]]]
def rs19q : RS := .c (.bool)
def pk19q : Bool → RL rs19q.cells := fun x => (x, ())
def up19q : RL rs19q.cells → Bool := fun d => d.1
def s19q (k : Nat) (d : AD as19q) := slices_ContainsFunc_int64__lim_isRow_fn1__lim_isLimit k d.1
def R19q : Nat × Entry := (111, fun k nm args h => entry as19q rs19q (s19q k) pk19q nm args h)
theorem ev19q : EvOK E19q A19q 0 Proofs.Try.f111 as19q rs19q up19q s19q := by intro k d; kernel_rfl
theorem F19q : FnOK Proofs.Try.prog R19q := fn_0 B19q ev19q

/-! ### giro/lim.isRow -/
noncomputable def E20q : Env := ⟨Proofs.Try.prog, fun _ => false, sumsOf [R19q]⟩
def A20q : Notes := ⟨[], []⟩
theorem B20q : EnvB E20q := env_n mixed_orders ⟨F19q, trivial⟩
def as20q : List AS := [.c (.dat false (.int .i64)), .c (.int .i64), .c (.fn 90)]
def rs20q : RS := .c (.bool)
def pk20q : Bool → RL rs20q.cells := fun x => (x, ())
def up20q : RL rs20q.cells → Bool := fun d => d.1
def s20q (k : Nat) (d : AD as20q) := lim_isRow__lim_isLimit k d.1 d.2.1
def R20q : Nat × Entry := (91, fun k nm args h => entry as20q rs20q (s20q k) pk20q nm args h)
theorem ev20q : EvOK E20q A20q 0 Proofs.Try.f91 as20q rs20q up20q s20q := by intro k d; kernel_rfl
theorem F20q : FnOK Proofs.Try.prog R20q := fn_0 B20q ev20q

/-! ### giro/lim.isSquare -/
noncomputable def E21q : Env := ⟨Proofs.Try.prog, fun _ => false, sumsOf [R20q]⟩
def I21_0q : Spec := ⟨[(1, .c (.int .i64)), (2, .c (.lit (.fn 90 []))), (13, .c (.dat false (.sl (.int .i64)))), (14, .c (.int .i64)), (15, .c (.int .i64))], [], []⟩
def X0_21_0q : Spec := ⟨[], [], []⟩
def X1_21_0q : Spec := ⟨[(6, .c (.bool))], [], []⟩
def O21_0q : List (Ex × Spec) := [(.exit 0, X0_21_0q), (.ret, X1_21_0q)]
def c21_0q (f : lim_isSquare__lim_isLimit_L0T) (d : I21_0q.den) : Option (Unit ⊕ Bool) := f d.1.1.1 d.1.2.2.1.1 d.1.2.2.2.1.1 d.1.2.2.2.2.1.1
def T21_0q : OutD O21_0q → (Unit ⊕ Bool)
 | .inl d => .inl ()
 | .inr d => .inr d.1.1.1
def e21_0q : Elim (Unit ⊕ Bool) := fun base x _ K => match x with
 | .inl x => K (.exit 0) (stOf base X0_21_0q ((), ()))
 | .inr x => K .ret (stOf base X1_21_0q (((x, ()), ()), ()))
def L21_0q : LoopSum := ⟨I21_0q, O21_0q, (Unit ⊕ Bool), fun k d => c21_0q (lim_isSquare__lim_isLimit_L0 k k) d, e21_0q⟩
def A21q : Notes := ⟨[], [(4, L21_0q)]⟩
theorem B21q : EnvB E21q := env_n mixed_orders ⟨F20q, trivial⟩
theorem st21_0q : StepOK E21q A21q 0 25 (loopAt (bodyOf Proofs.Try.f89) 0) I21_0q O21_0q T21_0q c21_0q lim_isSquare__lim_isLimit_L0b := by intro k rec d; kernel_rfl
theorem lk21_0q : LoopOK E21q.P 1000 0 25 (loopAt (bodyOf Proofs.Try.f89) 0) L21_0q := loop_b B21q st21_0q lim_isSquare__lim_isLimit_L0 e21_0q (by intro o R K; rcases o with o | o <;> rfl) loops0
def as21q : List AS := [.c (.dat false (.sl (.int .i64))), .c (.int .i64), .c (.fn 90)]
def rs21q : RS := .c (.bool)
def pk21q : Bool → RL rs21q.cells := fun x => (x, ())
def up21q : RL rs21q.cells → Bool := fun d => d.1
def s21q (k : Nat) (d : AD as21q) := lim_isSquare__lim_isLimit k d.1 d.2.1
def R21q : Nat × Entry := (89, fun k nm args h => entry as21q rs21q (s21q k) pk21q nm args h)
theorem ev21q : EvOK E21q A21q 0 Proofs.Try.f89 as21q rs21q up21q s21q := by intro k d; kernel_rfl
theorem F21q : FnOK Proofs.Try.prog R21q := fn_b B21q ev21q (loops1 lk21_0q)

/-! ### giro/lim.isNet -/
noncomputable def E22q : Env := ⟨Proofs.Try.prog, fun _ => false, sumsOf []⟩
def A22q : Notes := ⟨[], []⟩
theorem B22q : EnvB E22q := env_n mixed_orders trivial
def as22q : List AS := [.c (.int .i64)]
def rs22q : RS := .c (.bool)
def pk22q : Bool → RL rs22q.cells := fun x => (x, ())
def up22q : RL rs22q.cells → Bool := fun d => d.1
def s22q (k : Nat) (d : AD as22q) := lim_isNet k d.1
def R22q : Nat × Entry := (92, fun k nm args h => entry as22q rs22q (s22q k) pk22q nm args h)
theorem ev22q : EvOK E22q A22q 0 Proofs.Try.f92 as22q rs22q up22q s22q := by intro k d; kernel_rfl
theorem F22q : FnOK Proofs.Try.prog R22q := fn_0 B22q ev22q

/-! ### giro/lim.isRow$1 -/
noncomputable def E23q : Env := ⟨Proofs.Try.prog, fun _ => false, sumsOf [R22q]⟩
def A23q : Notes := ⟨[], []⟩
theorem B23q : EnvB E23q := env_n mixed_orders ⟨F22q, trivial⟩
def as23q : List AS := [.c (.int .i64), .ptr [.fn 92]]
def rs23q : RS := .c (.bool)
def pk23q : Bool → RL rs23q.cells := fun x => (x, ())
def up23q : RL rs23q.cells → Bool := fun d => d.1
def s23q (k : Nat) (d : AD as23q) := lim_isRow_fn1__lim_isNet k d.1
def R23q : Nat × Entry := (112, fun k nm args h => entry as23q rs23q (s23q k) pk23q nm args h)
theorem ev23q : EvOK E23q A23q 0 Proofs.Try.f112 as23q rs23q up23q s23q := by intro k d; kernel_rfl
theorem F23q : FnOK Proofs.Try.prog R23q := fn_0 B23q ev23q

/-! ### slices.IndexFunc[[]int64,int64] -/
noncomputable def E24q : Env := ⟨Proofs.Try.prog, fun _ => false, sumsOf [R23q]⟩
def I24_0q : Spec := ⟨[(0, .c (.dat false (.int .i64))), (1, .c (.lit (.fn 112 [1001000]))), (7, .c (.int .i64)), (8, .c (.int .i64))], [.robox [.lit (.fn 92 [])]], []⟩
def X0_24_0q : Spec := ⟨[], [], []⟩
def X1_24_0q : Spec := ⟨[(4, .c (.int .i64))], [], []⟩
def O24_0q : List (Ex × Spec) := [(.exit 0, X0_24_0q), (.ret, X1_24_0q)]
def c24_0q (f : slices_IndexFunc_int64__lim_isRow_fn1__lim_isNet_L0T) (d : I24_0q.den) : Option (Unit ⊕ Int) := f d.1.1.1 d.1.2.2.1.1 d.1.2.2.2.1.1
def T24_0q : OutD O24_0q → (Unit ⊕ Int)
 | .inl d => .inl ()
 | .inr d => .inr d.1.1.1
def e24_0q : Elim (Unit ⊕ Int) := fun base x _ K => match x with
 | .inl x => K (.exit 0) (stOf base X0_24_0q ((), ()))
 | .inr x => K .ret (stOf base X1_24_0q (((x, ()), ()), ()))
def L24_0q : LoopSum := ⟨I24_0q, O24_0q, (Unit ⊕ Int), fun k d => c24_0q (slices_IndexFunc_int64__lim_isRow_fn1__lim_isNet_L0 k k) d, e24_0q⟩
def A24q : Notes := ⟨[], [(2, L24_0q)]⟩
theorem B24q : EnvB E24q := env_n mixed_orders ⟨F23q, trivial⟩
theorem st24_0q : StepOK E24q A24q 0 19 (loopAt (bodyOf Proofs.Try.f129) 0) I24_0q O24_0q T24_0q c24_0q slices_IndexFunc_int64__lim_isRow_fn1__lim_isNet_L0b := by intro k rec d; kernel_rfl
theorem lk24_0q : LoopOK E24q.P 1000 0 19 (loopAt (bodyOf Proofs.Try.f129) 0) L24_0q := loop_b B24q st24_0q slices_IndexFunc_int64__lim_isRow_fn1__lim_isNet_L0 e24_0q (by intro o R K; rcases o with o | o <;> rfl) loops0
def as24q : List AS := [.c (.dat false (.int .i64)), .fn 112 [[.fn 92]]]
def rs24q : RS := .c (.int .i64)
def pk24q : Int → RL rs24q.cells := fun x => (x, ())
def up24q : RL rs24q.cells → Int := fun d => d.1
def s24q (k : Nat) (d : AD as24q) := slices_IndexFunc_int64__lim_isRow_fn1__lim_isNet k d.1
def R24q : Nat × Entry := (129, fun k nm args h => entry as24q rs24q (s24q k) pk24q nm args h)
theorem ev24q : EvOK E24q A24q 0 Proofs.Try.f129 as24q rs24q up24q s24q := by intro k d; kernel_rfl
theorem F24q : FnOK Proofs.Try.prog R24q := fn_b B24q ev24q (loops1 lk24_0q)

/-! ### slices.ContainsFunc[[]int64,int64] -/
noncomputable def E25q : Env := ⟨Proofs.Try.prog, fun _ => false, sumsOf [R24q]⟩
def A25q : Notes := ⟨[], []⟩
theorem B25q : EnvB E25q := env_n mixed_orders ⟨F24q, trivial⟩
def as25q : List AS := [.c (.dat false (.int .i64)), .fn 112 [[.fn 92]]]
def rs25q : RS := .c (.bool)
def pk25q : Bool → RL rs25q.cells := fun x => (x, ())
def up25q : RL rs25q.cells → Bool := fun d => d.1
def s25q (k : Nat) (d : AD as25q) := slices_ContainsFunc_int64__lim_isRow_fn1__lim_isNet k d.1
def R25q : Nat × Entry := (111, fun k nm args h => entry as25q rs25q (s25q k) pk25q nm args h)
theorem ev25q : EvOK E25q A25q 0 Proofs.Try.f111 as25q rs25q up25q s25q := by intro k d; kernel_rfl
theorem F25q : FnOK Proofs.Try.prog R25q := fn_0 B25q ev25q

/-! ### giro/lim.isRow -/
noncomputable def E26q : Env := ⟨Proofs.Try.prog, fun _ => false, sumsOf [R25q]⟩
def A26q : Notes := ⟨[], []⟩
theorem B26q : EnvB E26q := env_n mixed_orders ⟨F25q, trivial⟩
def as26q : List AS := [.c (.dat false (.int .i64)), .c (.int .i64), .c (.fn 92)]
def rs26q : RS := .c (.bool)
def pk26q : Bool → RL rs26q.cells := fun x => (x, ())
def up26q : RL rs26q.cells → Bool := fun d => d.1
def s26q (k : Nat) (d : AD as26q) := lim_isRow__lim_isNet k d.1 d.2.1
def R26q : Nat × Entry := (91, fun k nm args h => entry as26q rs26q (s26q k) pk26q nm args h)
theorem ev26q : EvOK E26q A26q 0 Proofs.Try.f91 as26q rs26q up26q s26q := by intro k d; kernel_rfl
theorem F26q : FnOK Proofs.Try.prog R26q := fn_0 B26q ev26q

/-! ### giro/lim.isSquare -/
noncomputable def E27q : Env := ⟨Proofs.Try.prog, fun _ => false, sumsOf [R26q]⟩
def I27_0q : Spec := ⟨[(1, .c (.int .i64)), (2, .c (.lit (.fn 92 []))), (13, .c (.dat false (.sl (.int .i64)))), (14, .c (.int .i64)), (15, .c (.int .i64))], [], []⟩
def X0_27_0q : Spec := ⟨[], [], []⟩
def X1_27_0q : Spec := ⟨[(6, .c (.bool))], [], []⟩
def O27_0q : List (Ex × Spec) := [(.exit 0, X0_27_0q), (.ret, X1_27_0q)]
def c27_0q (f : lim_isSquare__lim_isNet_L0T) (d : I27_0q.den) : Option (Unit ⊕ Bool) := f d.1.1.1 d.1.2.2.1.1 d.1.2.2.2.1.1 d.1.2.2.2.2.1.1
def T27_0q : OutD O27_0q → (Unit ⊕ Bool)
 | .inl d => .inl ()
 | .inr d => .inr d.1.1.1
def e27_0q : Elim (Unit ⊕ Bool) := fun base x _ K => match x with
 | .inl x => K (.exit 0) (stOf base X0_27_0q ((), ()))
 | .inr x => K .ret (stOf base X1_27_0q (((x, ()), ()), ()))
def L27_0q : LoopSum := ⟨I27_0q, O27_0q, (Unit ⊕ Bool), fun k d => c27_0q (lim_isSquare__lim_isNet_L0 k k) d, e27_0q⟩
def A27q : Notes := ⟨[], [(4, L27_0q)]⟩
theorem B27q : EnvB E27q := env_n mixed_orders ⟨F26q, trivial⟩
theorem st27_0q : StepOK E27q A27q 0 25 (loopAt (bodyOf Proofs.Try.f89) 0) I27_0q O27_0q T27_0q c27_0q lim_isSquare__lim_isNet_L0b := by intro k rec d; kernel_rfl
theorem lk27_0q : LoopOK E27q.P 1000 0 25 (loopAt (bodyOf Proofs.Try.f89) 0) L27_0q := loop_b B27q st27_0q lim_isSquare__lim_isNet_L0 e27_0q (by intro o R K; rcases o with o | o <;> rfl) loops0
def as27q : List AS := [.c (.dat false (.sl (.int .i64))), .c (.int .i64), .c (.fn 92)]
def rs27q : RS := .c (.bool)
def pk27q : Bool → RL rs27q.cells := fun x => (x, ())
def up27q : RL rs27q.cells → Bool := fun d => d.1
def s27q (k : Nat) (d : AD as27q) := lim_isSquare__lim_isNet k d.1 d.2.1
def R27q : Nat × Entry := (89, fun k nm args h => entry as27q rs27q (s27q k) pk27q nm args h)
theorem ev27q : EvOK E27q A27q 0 Proofs.Try.f89 as27q rs27q up27q s27q := by intro k d; kernel_rfl
theorem F27q : FnOK Proofs.Try.prog R27q := fn_b B27q ev27q (loops1 lk27_0q)

/-! ### giro/lim.isTurned -/
noncomputable def E28q : Env := ⟨Proofs.Try.prog, fun _ => false, sumsOf []⟩
def I28_0q : Spec := ⟨[(0, .c (.dat false (.sl (.int .i64)))), (3, .c (.int .i64)), (7, .c (.dat false (.sl (.int .i64)))), (8, .c (.int .i64)), (9, .c (.int .i64)), (14, .c (.dat false (.int .i64))), (15, .c (.int .i64)), (16, .c (.int .i64))], [], []⟩
def X0_28_0q : Spec := ⟨[(0, .c (.dat false (.sl (.int .i64)))), (7, .c (.dat false (.sl (.int .i64)))), (8, .c (.int .i64)), (9, .c (.int .i64))], [], []⟩
def X1_28_0q : Spec := ⟨[(2, .c (.bool))], [], []⟩
def O28_0q : List (Ex × Spec) := [(.exit 2, X0_28_0q), (.ret, X1_28_0q)]
def c28_0q (f : lim_isTurned_L1T) (d : I28_0q.den) : Option lim_isTurned_L1X := f d.1.1.1 d.1.2.1.1 d.1.2.2.1.1 d.1.2.2.2.1.1 d.1.2.2.2.2.1.1 d.1.2.2.2.2.2.1.1 d.1.2.2.2.2.2.2.1.1 d.1.2.2.2.2.2.2.2.1.1
def T28_0q : OutD O28_0q → lim_isTurned_L1X
 | .inl d => .inl (d.1.1.1, d.1.2.1.1, d.1.2.2.1.1, d.1.2.2.2.1.1)
 | .inr d => .inr d.1.1.1
def e28_0q : Elim lim_isTurned_L1X := fun base x _ K => match x with
 | .inl x => K (.exit 2) (stOf base X0_28_0q (((x.1, ()), (x.2.1, ()), (x.2.2.1, ()), (x.2.2.2, ()), ()), ()))
 | .inr x => K .ret (stOf base X1_28_0q (((x, ()), ()), ()))
def L28_0q : LoopSum := ⟨I28_0q, O28_0q, lim_isTurned_L1X, fun k d => c28_0q (lim_isTurned_L1 k k) d, e28_0q⟩
def I28_1q : Spec := ⟨[(0, .c (.dat false (.sl (.int .i64)))), (7, .c (.dat false (.sl (.int .i64)))), (8, .c (.int .i64)), (9, .c (.int .i64))], [], []⟩
def X0_28_1q : Spec := ⟨[], [], []⟩
def X1_28_1q : Spec := ⟨[(2, .c (.bool))], [], []⟩
def O28_1q : List (Ex × Spec) := [(.exit 0, X0_28_1q), (.ret, X1_28_1q)]
def c28_1q (f : lim_isTurned_L0T) (d : I28_1q.den) : Option (Unit ⊕ Bool) := f d.1.1.1 d.1.2.1.1 d.1.2.2.1.1 d.1.2.2.2.1.1
def T28_1q : OutD O28_1q → (Unit ⊕ Bool)
 | .inl d => .inl ()
 | .inr d => .inr d.1.1.1
def e28_1q : Elim (Unit ⊕ Bool) := fun base x _ K => match x with
 | .inl x => K (.exit 0) (stOf base X0_28_1q ((), ()))
 | .inr x => K .ret (stOf base X1_28_1q (((x, ()), ()), ()))
def L28_1q : LoopSum := ⟨I28_1q, O28_1q, (Unit ⊕ Bool), fun k d => c28_1q (lim_isTurned_L0 k k) d, e28_1q⟩
def A28q : Notes := ⟨[], [(5, L28_0q), (2, L28_1q)]⟩
theorem B28q : EnvB E28q := env_n mixed_orders trivial
theorem st28_0q : StepOK E28q A28q 0 33 (loopAt (loopAt (bodyOf Proofs.Try.f93) 0) 0) I28_0q O28_0q T28_0q c28_0q lim_isTurned_L1b := by intro k rec d; kernel_rfl
theorem lk28_0q : LoopOK E28q.P 1000 0 33 (loopAt (loopAt (bodyOf Proofs.Try.f93) 0) 0) L28_0q := loop_b B28q st28_0q lim_isTurned_L1 e28_0q (by intro o R K; rcases o with o | o <;> rfl) loops0
theorem st28_1q : StepOK E28q A28q 0 33 (loopAt (bodyOf Proofs.Try.f93) 0) I28_1q O28_1q T28_1q c28_1q lim_isTurned_L0b := by intro k rec d; kernel_rfl
theorem lk28_1q : LoopOK E28q.P 1000 0 33 (loopAt (bodyOf Proofs.Try.f93) 0) L28_1q := loop_b B28q st28_1q lim_isTurned_L0 e28_1q (by intro o R K; rcases o with o | o <;> rfl) (loops1 lk28_0q)
def as28q : List AS := [.c (.dat false (.sl (.int .i64)))]
def rs28q : RS := .c (.bool)
def pk28q : Bool → RL rs28q.cells := fun x => (x, ())
def up28q : RL rs28q.cells → Bool := fun d => d.1
def s28q (k : Nat) (d : AD as28q) := lim_isTurned k d.1
def R28q : Nat × Entry := (93, fun k nm args h => entry as28q rs28q (s28q k) pk28q nm args h)
theorem ev28q : EvOK E28q A28q 0 Proofs.Try.f93 as28q rs28q up28q s28q := by intro k d; kernel_rfl
theorem F28q : FnOK Proofs.Try.prog R28q := fn_b B28q ev28q (loops1 lk28_1q)

/-! ### giro/lim.Is -/
noncomputable def E29q : Env := ⟨Proofs.Try.prog, fun _ => false, sumsOf [R15q, R21q, R20q, R27q, R28q]⟩
def A29q : Notes := ⟨[], []⟩
theorem B29q : EnvB E29q := env_n mixed_orders ⟨F15q, F21q, F20q, F27q, F28q, trivial⟩
def as29q : List AS := [.agg [.dat false y3q, .dat false (.sl (.int .i64)), .dat false (.int .i64), .dat false (.sl (.int .i64))]]
def rs29q : RS := .c (.bool)
def pk29q : Bool → RL rs29q.cells := fun x => (x, ())
def up29q : RL rs29q.cells → Bool := fun d => d.1
def s29q (k : Nat) (d : AD as29q) := lim_Is k d.1 d.2.1 d.2.2.1 d.2.2.2.1
def R29q : Nat × Entry := (59, fun k nm args h => entry as29q rs29q (s29q k) pk29q nm args h)
theorem ev29q : EvOK E29q A29q 0 Proofs.Try.f59 as29q rs29q up29q s29q := by intro k d; kernel_rfl
theorem F29q : FnOK Proofs.Try.prog R29q := fn_0 B29q ev29q

/-! ### slices.Clone[[]giro/api.Acct,giro/api.Acct] -/
noncomputable def E30q : Env := ⟨Proofs.Try.prog, fun _ => false, sumsOf []⟩
def A30q : Notes := ⟨[], []⟩
theorem B30q : EnvB E30q := env_n mixed_orders trivial
def as30q : List AS := [.c (.dat false y3q)]
def rs30q : RS := .c (.own y3q)
def pk30q : List K2q → RL rs30q.cells := fun x => (x, ())
def up30q : RL rs30q.cells → List K2q := fun d => d.1
def s30q (k : Nat) (d : AD as30q) := slices_Clone_Acct k d.1
def R30q : Nat × Entry := (60, fun k nm args h => entry as30q rs30q (fun d => slices_Clone_Acct k d.1) pk30q nm args h)
theorem nil30q (k : Nat) : evF E30q A30q k 1000 0 Proofs.Try.f60 [.c .nsl] (boxHp []) (outM rs30q up30q) = slices_Clone_Acct k [] := by kernel_rfl
theorem ev30q (k : Nat) (xs : List K2q) : evF E30q A30q k 1000 0 Proofs.Try.f60 [.c (.nfl false y3q xs)] (boxHp []) (outM rs30q up30q) = slices_Clone_Acct k xs := by kernel_rfl
theorem F30q : FnOK Proofs.Try.prog R30q := fn_nil (t := y3q) (S := slices_Clone_Acct) (unpack := up30q) B30q nil30q ev30q loops0

/-! ### slices.Clone[[][]int64,[]int64] -/
noncomputable def E31q : Env := ⟨Proofs.Try.prog, fun _ => false, sumsOf []⟩
def A31q : Notes := ⟨[], []⟩
theorem B31q : EnvB E31q := env_n mixed_orders trivial
def as31q : List AS := [.c (.dat true (.sl (.int .i64)))]
def rs31q : RS := .c (.jun)
def pk31q : Nat → RL rs31q.cells := fun x => (x, ())
def up31q : RL rs31q.cells → Nat := fun d => d.1
def s31q (k : Nat) (d : AD as31q) := slices_Clone_Rowint64 k d.1
def R31q : Nat × Entry := (94, fun k nm args h => entry as31q rs31q (fun d => slices_Clone_Rowint64 k d.1) pk31q nm args h)
theorem nil31q (k : Nat) : evF E31q A31q k 1000 0 Proofs.Try.f94 [.c .nsl] (boxHp []) (outM rs31q up31q) = slices_Clone_Rowint64 k [] := by kernel_rfl
theorem ev31q (k : Nat) (xs : List (List Int)) : evF E31q A31q k 1000 0 Proofs.Try.f94 [.c (.nfl true (.sl (.int .i64)) xs)] (boxHp []) (outM rs31q up31q) = slices_Clone_Rowint64 k xs := by kernel_rfl
theorem F31q : FnOK Proofs.Try.prog R31q := fn_nil (t := (.sl (.int .i64))) (S := slices_Clone_Rowint64) (unpack := up31q) B31q nil31q ev31q loops0

/-! ### slices.Clone[[]int64,int64] -/
noncomputable def E32q : Env := ⟨Proofs.Try.prog, fun _ => false, sumsOf []⟩
def A32q : Notes := ⟨[], []⟩
theorem B32q : EnvB E32q := env_n mixed_orders trivial
def as32q : List AS := [.c (.dat false (.int .i64))]
def rs32q : RS := .c (.own (.int .i64))
def pk32q : List Int → RL rs32q.cells := fun x => (x, ())
def up32q : RL rs32q.cells → List Int := fun d => d.1
def s32q (k : Nat) (d : AD as32q) := slices_Clone_int64 k d.1
def R32q : Nat × Entry := (62, fun k nm args h => entry as32q rs32q (fun d => slices_Clone_int64 k d.1) pk32q nm args h)
theorem nil32q (k : Nat) : evF E32q A32q k 1000 0 Proofs.Try.f62 [.c .nsl] (boxHp []) (outM rs32q up32q) = slices_Clone_int64 k [] := by kernel_rfl
theorem ev32q (k : Nat) (xs : List Int) : evF E32q A32q k 1000 0 Proofs.Try.f62 [.c (.nfl false (.int .i64) xs)] (boxHp []) (outM rs32q up32q) = slices_Clone_int64 k xs := by kernel_rfl
theorem F32q : FnOK Proofs.Try.prog R32q := fn_nil (t := (.int .i64)) (S := slices_Clone_int64) (unpack := up32q) B32q nil32q ev32q loops0

/-! ### giro/lim.copied -/
noncomputable def E33q : Env := ⟨Proofs.Try.prog, fun _ => false, sumsOf [R31q, R32q]⟩
def I33_0q : Spec := ⟨[(3, .c (.lit (.osl 1001000 none))), (8, .c (.dat true (.sl (.int .i64)))), (9, .c (.int .i64)), (10, .c (.int .i64))], [.pmat], []⟩
def X0_33_0q : Spec := ⟨[(3, .c (.lit (.osl 1001000 none)))], [.pmat], []⟩
def O33_0q : List (Ex × Spec) := [(.exit 0, X0_33_0q)]
def c33_0q (f : lim_copied_L0T) (d : I33_0q.den) : Option ((List (List Int)) × Nat) := f d.1.2.1.1 d.1.2.2.1.1 d.1.2.2.2.1.1 d.2.1.1 d.2.1.2
def T33_0q : OutD O33_0q → ((List (List Int)) × Nat) := fun d => (d.2.1.1, d.2.1.2)
def e33_0q : Elim ((List (List Int)) × Nat) := fun base x _ K => K (.exit 0) (stOf base X0_33_0q (((), ()), ((x.1, x.2), ())))
def L33_0q : LoopSum := ⟨I33_0q, O33_0q, ((List (List Int)) × Nat), fun k d => c33_0q (lim_copied_L0 k k) d, e33_0q⟩
def A33q : Notes := ⟨[], [(3, L33_0q)]⟩
theorem B33q : EnvB E33q := env_n mixed_orders ⟨F31q, F32q, trivial⟩
theorem st33_0q : StepOK E33q A33q 0 22 (loopAt (bodyOf Proofs.Try.f61) 0) I33_0q O33_0q T33_0q c33_0q lim_copied_L0b := by intro k rec d; kernel_rfl
theorem lk33_0q : LoopOK E33q.P 1000 0 22 (loopAt (bodyOf Proofs.Try.f61) 0) L33_0q := loop_b B33q st33_0q lim_copied_L0 e33_0q (fun _ _ _ => rfl) loops0
def as33q : List AS := [.c (.dat true (.sl (.int .i64)))]
def rs33q : RS := .c (.mat)
def pk33q : List (List Int) → RL rs33q.cells := fun x => (x, ())
def up33q : RL rs33q.cells → List (List Int) := fun d => d.1
def s33q (k : Nat) (d : AD as33q) := lim_copied k d.1
def R33q : Nat × Entry := (61, fun k nm args h => entry as33q rs33q (s33q k) pk33q nm args h)
theorem ev33q : EvOK E33q A33q 0 Proofs.Try.f61 as33q rs33q up33q s33q := by intro k d; kernel_rfl
theorem F33q : FnOK Proofs.Try.prog R33q := fn_b B33q ev33q (loops1 lk33_0q)

/-! ### giro/lim.Copy -/
noncomputable def E34q : Env := ⟨Proofs.Try.prog, fun _ => false, sumsOf [R30q, R33q, R32q]⟩
def A34q : Notes := ⟨[], []⟩
theorem B34q : EnvB E34q := env_n mixed_orders ⟨F30q, F33q, F32q, trivial⟩
def as34q : List AS := [.agg [.dat false y3q, .dat true (.sl (.int .i64)), .dat false (.int .i64), .dat true (.sl (.int .i64))]]
def rs34q : RS := .agg [.own y3q, .mat, .own (.int .i64), .mat]
def pk34q : (List K2q) × (List (List Int)) × (List Int) × (List (List Int)) → RL rs34q.cells := fun x => (x.1, x.2.1, x.2.2.1, x.2.2.2, ())
def up34q : RL rs34q.cells → (List K2q) × (List (List Int)) × (List Int) × (List (List Int)) := fun d => (d.1, d.2.1, d.2.2.1, d.2.2.2.1)
def s34q (k : Nat) (d : AD as34q) := lim_Copy k d.1 d.2.1 d.2.2.1 d.2.2.2.1
def R34q : Nat × Entry := (20, fun k nm args h => entry as34q rs34q (s34q k) pk34q nm args h)
theorem ev34q : EvOK E34q A34q 0 Proofs.Try.f20 as34q rs34q up34q s34q := by intro k d; kernel_rfl
theorem F34q : FnOK Proofs.Try.prog R34q := fn_0 B34q ev34q

/-! ### giro/pay.Ready -/
noncomputable def E53q : Env := ⟨Proofs.Try.prog, fun _ => false, sumsOf []⟩
def A53q : Notes := ⟨[], []⟩
theorem B53q : EnvB E53q := env_n mixed_orders trivial
def as53q : List AS := [.agg [.int .i64, .int .i64, .int .i64, .int .i64, .int .i64, .int .i64, .int .i64], .c (.int .i64)]
def rs53q : RS := .c (.bool)
def pk53q : Bool → RL rs53q.cells := fun x => (x, ())
def up53q : RL rs53q.cells → Bool := fun d => d.1
def s53q (k : Nat) (d : AD as53q) := pay_Ready k d.1 d.2.1 d.2.2.1 d.2.2.2.1 d.2.2.2.2.1 d.2.2.2.2.2.1 d.2.2.2.2.2.2.1 d.2.2.2.2.2.2.2.1
def R53q : Nat × Entry := (128, fun k nm args h => entry as53q rs53q (s53q k) pk53q nm args h)
theorem ev53q : EvOK E53q A53q 0 Proofs.Try.f128 as53q rs53q up53q s53q := by intro k d; kernel_rfl
theorem F53q : FnOK Proofs.Try.prog R53q := fn_0 B53q ev53q

/-! ### giro/view.Ready$1 -/
noncomputable def E54q : Env := ⟨Proofs.Try.prog, fun _ => false, sumsOf [R53q]⟩
def A54q : Notes := ⟨[], []⟩
theorem B54q : EnvB E54q := env_n mixed_orders ⟨F53q, trivial⟩
def as54q : List AS := [.agg [.int .i64, .int .i64, .int .i64, .int .i64, .int .i64, .int .i64, .int .i64], .ptr [.int .i64]]
def rs54q : RS := .c (.bool)
def pk54q : Bool → RL rs54q.cells := fun x => (x, ())
def up54q : RL rs54q.cells → Bool := fun d => d.1
def s54q (k : Nat) (d : AD as54q) := view_Ready_fn1 k d.1 d.2.1 d.2.2.1 d.2.2.2.1 d.2.2.2.2.1 d.2.2.2.2.2.1 d.2.2.2.2.2.2.1 d.2.2.2.2.2.2.2.1
def R54q : Nat × Entry := (127, fun k nm args h => entry as54q rs54q (s54q k) pk54q nm args h)
theorem ev54q : EvOK E54q A54q 0 Proofs.Try.f127 as54q rs54q up54q s54q := by intro k d; kernel_rfl
theorem F54q : FnOK Proofs.Try.prog R54q := fn_0 B54q ev54q

/-! ### giro/view.all -/
noncomputable def E55q : Env := ⟨Proofs.Try.prog, fun _ => false, sumsOf [R54q]⟩
def I55_0q : Spec := ⟨[(1, .c (.lit (.fn 127 [1001000]))), (5, .c (.lit (.osl 1001001 none))), (8, .c (.dat false y7q)), (9, .c (.int .i64)), (10, .c (.int .i64))], [.robox [.int .i64], .arr true y7q], [(5, none, y7q, false)]⟩
def X0_55_0q : Spec := ⟨[(5, .c (.lit (.osl 1001000 none)))], [.arr true y7q], []⟩
def O55_0q : List (Ex × Spec) := [(.exit 0, X0_55_0q)]
def c55_0q (f : view_all__view_Ready_fn1_L0T) (d : I55_0q.den) : Option view_all__view_Ready_fn1_L0X := f d.1.2.2.1.1 d.1.2.2.2.1.1 d.1.2.2.2.2.1.1 d.2.1.1 d.2.2.1
def T55_0q : OutD O55_0q → view_all__view_Ready_fn1_L0X := fun d => d.2.1
def e55_0q : Elim view_all__view_Ready_fn1_L0X := fun base x _ K => K (.exit 0) (stOf base X0_55_0q (((), ()), (x, ())))
def L55_0q : LoopSum := ⟨I55_0q, O55_0q, view_all__view_Ready_fn1_L0X, fun k d => c55_0q (view_all__view_Ready_fn1_L0 k k) d, e55_0q⟩
def A55q : Notes := ⟨[], [(3, L55_0q)]⟩
theorem B55q : EnvB E55q := env_n mixed_orders ⟨F54q, trivial⟩
theorem st55_0q : StepOK E55q A55q 0 23 (loopAt (bodyOf Proofs.Try.f113) 0) I55_0q O55_0q T55_0q c55_0q view_all__view_Ready_fn1_L0b := by intro k rec d; kernel_rfl
theorem lk55_0q : LoopOK E55q.P 1000 0 23 (loopAt (bodyOf Proofs.Try.f113) 0) L55_0q := loop_b B55q st55_0q view_all__view_Ready_fn1_L0 e55_0q (fun _ _ _ => rfl) loops0
def as55q : List AS := [.c (.dat false y7q), .fn 127 [[.int .i64]]]
def rs55q : RS := .c (.own y7q)
def pk55q : List K1q → RL rs55q.cells := fun x => (x, ())
def up55q : RL rs55q.cells → List K1q := fun d => d.1
def s55q (k : Nat) (d : AD as55q) := view_all__view_Ready_fn1 k d.1 d.2.1
def R55q : Nat × Entry := (113, fun k nm args h => entry as55q rs55q (s55q k) pk55q nm args h)
theorem ev55q : EvOK E55q A55q 0 Proofs.Try.f113 as55q rs55q up55q s55q := by intro k d; kernel_rfl
theorem F55q : FnOK Proofs.Try.prog R55q := fn_b B55q ev55q (loops1 lk55_0q)

/-! ### giro/view.Ready -/
noncomputable def E56q : Env := ⟨Proofs.Try.prog, fun _ => false, sumsOf [R55q]⟩
def A56q : Notes := ⟨[], []⟩
theorem B56q : EnvB E56q := env_n mixed_orders ⟨F55q, trivial⟩
def as56q : List AS := [.c (.dat false y7q), .c (.int .i64)]
def rs56q : RS := .c (.own y7q)
def pk56q : List K1q → RL rs56q.cells := fun x => (x, ())
def up56q : RL rs56q.cells → List K1q := fun d => d.1
def s56q (k : Nat) (d : AD as56q) := view_Ready k d.1 d.2.1
def R56q : Nat × Entry := (109, fun k nm args h => entry as56q rs56q (s56q k) pk56q nm args h)
theorem ev56q : EvOK E56q A56q 0 Proofs.Try.f109 as56q rs56q up56q s56q := by intro k d; kernel_rfl
theorem F56q : FnOK Proofs.Try.prog R56q := fn_0 B56q ev56q

/-! ### giro/view.May$1$1 -/
noncomputable def E57q : Env := ⟨Proofs.Try.prog, fun _ => false, sumsOf []⟩
def A57q : Notes := ⟨[], []⟩
theorem B57q : EnvB E57q := env_n mixed_orders trivial
def as57q : List AS := [.agg [.int .i64, .int .i64, .int .i64, .int .i64, .int .i64, .int .i64, .int .i64], .ptr [.int .i64, .int .i64, .int .i64, .int .i64, .int .i64, .int .i64, .int .i64]]
def rs57q : RS := .c (.bool)
def pk57q : Bool → RL rs57q.cells := fun x => (x, ())
def up57q : RL rs57q.cells → Bool := fun d => d.1
def s57q (k : Nat) (d : AD as57q) := view_May_fn1_fn1 k d.1 d.2.1 d.2.2.1 d.2.2.2.1 d.2.2.2.2.1 d.2.2.2.2.2.1 d.2.2.2.2.2.2.1 d.2.2.2.2.2.2.2.1 d.2.2.2.2.2.2.2.2.1 d.2.2.2.2.2.2.2.2.2.1 d.2.2.2.2.2.2.2.2.2.2.1 d.2.2.2.2.2.2.2.2.2.2.2.1 d.2.2.2.2.2.2.2.2.2.2.2.2.1 d.2.2.2.2.2.2.2.2.2.2.2.2.2.1
def R57q : Nat × Entry := (115, fun k nm args h => entry as57q rs57q (s57q k) pk57q nm args h)
theorem ev57q : EvOK E57q A57q 0 Proofs.Try.f115 as57q rs57q up57q s57q := by intro k d; kernel_rfl
theorem F57q : FnOK Proofs.Try.prog R57q := fn_0 B57q ev57q

/-! ### slices.IndexFunc[[]giro/api.Pay,giro/api.Pay] -/
noncomputable def E58q : Env := ⟨Proofs.Try.prog, fun _ => false, sumsOf [R57q]⟩
def I58_0q : Spec := ⟨[(0, .c (.dat false y7q)), (1, .c (.lit (.fn 115 [1001000]))), (7, .c (.int .i64)), (8, .c (.int .i64))], [.robox [.int .i64, .int .i64, .int .i64, .int .i64, .int .i64, .int .i64, .int .i64]], []⟩
def X0_58_0q : Spec := ⟨[], [], []⟩
def X1_58_0q : Spec := ⟨[(4, .c (.int .i64))], [], []⟩
def O58_0q : List (Ex × Spec) := [(.exit 0, X0_58_0q), (.ret, X1_58_0q)]
def c58_0q (f : slices_IndexFunc_Pay__view_May_fn1_fn1_L0T) (d : I58_0q.den) : Option (Unit ⊕ Int) := f d.1.1.1 d.1.2.2.1.1 d.1.2.2.2.1.1 d.2.1.1 d.2.1.2.1 d.2.1.2.2.1 d.2.1.2.2.2.1 d.2.1.2.2.2.2.1 d.2.1.2.2.2.2.2.1 d.2.1.2.2.2.2.2.2.1
def T58_0q : OutD O58_0q → (Unit ⊕ Int)
 | .inl d => .inl ()
 | .inr d => .inr d.1.1.1
def e58_0q : Elim (Unit ⊕ Int) := fun base x _ K => match x with
 | .inl x => K (.exit 0) (stOf base X0_58_0q ((), ()))
 | .inr x => K .ret (stOf base X1_58_0q (((x, ()), ()), ()))
def L58_0q : LoopSum := ⟨I58_0q, O58_0q, (Unit ⊕ Int), fun k d => c58_0q (slices_IndexFunc_Pay__view_May_fn1_fn1_L0 k k) d, e58_0q⟩
def A58q : Notes := ⟨[], [(2, L58_0q)]⟩
theorem B58q : EnvB E58q := env_n mixed_orders ⟨F57q, trivial⟩
theorem st58_0q : StepOK E58q A58q 0 19 (loopAt (bodyOf Proofs.Try.f122) 0) I58_0q O58_0q T58_0q c58_0q slices_IndexFunc_Pay__view_May_fn1_fn1_L0b := by intro k rec d; kernel_rfl
theorem lk58_0q : LoopOK E58q.P 1000 0 19 (loopAt (bodyOf Proofs.Try.f122) 0) L58_0q := loop_b B58q st58_0q slices_IndexFunc_Pay__view_May_fn1_fn1_L0 e58_0q (by intro o R K; rcases o with o | o <;> rfl) loops0
def as58q : List AS := [.c (.dat false y7q), .fn 115 [[.int .i64, .int .i64, .int .i64, .int .i64, .int .i64, .int .i64, .int .i64]]]
def rs58q : RS := .c (.int .i64)
def pk58q : Int → RL rs58q.cells := fun x => (x, ())
def up58q : RL rs58q.cells → Int := fun d => d.1
def s58q (k : Nat) (d : AD as58q) := slices_IndexFunc_Pay__view_May_fn1_fn1 k d.1 d.2.1 d.2.2.1 d.2.2.2.1 d.2.2.2.2.1 d.2.2.2.2.2.1 d.2.2.2.2.2.2.1 d.2.2.2.2.2.2.2.1
def R58q : Nat × Entry := (122, fun k nm args h => entry as58q rs58q (s58q k) pk58q nm args h)
theorem ev58q : EvOK E58q A58q 0 Proofs.Try.f122 as58q rs58q up58q s58q := by intro k d; kernel_rfl
theorem F58q : FnOK Proofs.Try.prog R58q := fn_b B58q ev58q (loops1 lk58_0q)

/-! ### slices.ContainsFunc[[]giro/api.Pay,giro/api.Pay] -/
noncomputable def E59q : Env := ⟨Proofs.Try.prog, fun _ => false, sumsOf [R58q]⟩
def A59q : Notes := ⟨[], []⟩
theorem B59q : EnvB E59q := env_n mixed_orders ⟨F58q, trivial⟩
def as59q : List AS := [.c (.dat false y7q), .fn 115 [[.int .i64, .int .i64, .int .i64, .int .i64, .int .i64, .int .i64, .int .i64]]]
def rs59q : RS := .c (.bool)
def pk59q : Bool → RL rs59q.cells := fun x => (x, ())
def up59q : RL rs59q.cells → Bool := fun d => d.1
def s59q (k : Nat) (d : AD as59q) := slices_ContainsFunc_Pay__view_May_fn1_fn1 k d.1 d.2.1 d.2.2.1 d.2.2.2.1 d.2.2.2.2.1 d.2.2.2.2.2.1 d.2.2.2.2.2.2.1 d.2.2.2.2.2.2.2.1
def R59q : Nat × Entry := (116, fun k nm args h => entry as59q rs59q (s59q k) pk59q nm args h)
theorem ev59q : EvOK E59q A59q 0 Proofs.Try.f116 as59q rs59q up59q s59q := by intro k d; kernel_rfl
theorem F59q : FnOK Proofs.Try.prog R59q := fn_0 B59q ev59q

/-! ### giro/view.May$1 -/
noncomputable def E60q : Env := ⟨Proofs.Try.prog, fun _ => false, sumsOf [R59q]⟩
def A60q : Notes := ⟨[], []⟩
theorem B60q : EnvB E60q := env_n mixed_orders ⟨F59q, trivial⟩
def as60q : List AX := [.agg [.int .i64, .int .i64, .int .i64, .int .i64, .int .i64, .int .i64, .int .i64], .ptr true [.map], .ptr false [.p (.dat false y7q)]]
def rs60q : RS := .c (.bool)
def os60q : List (List RC) := [[.map]]
def pk60q : Bool × (List (Int × Bool)) → RL (rs60q.cells ++ os60q.flatten) := fun x => (x.1, x.2, ())
def up60q : RL (rs60q.cells ++ os60q.flatten) → Bool × (List (Int × Bool)) := fun d => (d.1, d.2.1)
def s60q (k : Nat) (d : XD as60q) := view_May_fn1 k d.1 d.2.1 d.2.2.1 d.2.2.2.1 d.2.2.2.2.1 d.2.2.2.2.2.1 d.2.2.2.2.2.2.1 d.2.2.2.2.2.2.2.1 d.2.2.2.2.2.2.2.2.1
def R60q : Nat × Entry := (114, fun k nm args h => entryX as60q rs60q os60q (s60q k) pk60q nm args h)
theorem ev60q : EvOKX E60q A60q 3 Proofs.Try.f114 as60q rs60q os60q up60q s60q := by intro k d; kernel_rfl
theorem F60q : FnOK Proofs.Try.prog R60q := fn_x B60q ev60q loops0

/-! ### giro/view.all -/
noncomputable def E61q : Env := ⟨Proofs.Try.prog, fun _ => false, sumsOf [R60q]⟩
def I61_0q : Spec := ⟨[(1, .c (.lit (.fn 114 [1001000, 1001002]))), (5, .c (.lit (.osl 1001003 none))), (8, .c (.dat false y7q)), (9, .c (.int .i64)), (10, .c (.int .i64))], [.box true [.lit (.map 1001001)], .imap, .robox [.dat false y7q], .arr true y7q], [(5, none, y7q, false)]⟩
def X0_61_0q : Spec := ⟨[(1, .c (.lit (.fn 114 [1001000, 1001002]))), (5, .c (.lit (.osl 1001003 none)))], [.box true [.lit (.map 1001001)], .imap, .robox [.dat false y7q], .arr true y7q], []⟩
def O61_0q : List (Ex × Spec) := [(.exit 0, X0_61_0q)]
def c61_0q (f : view_all__view_May_fn1_L0T) (d : I61_0q.den) : Option view_all__view_May_fn1_L0X := f d.1.2.2.1.1 d.1.2.2.2.1.1 d.1.2.2.2.2.1.1 d.2.2.1 d.2.2.2.1.1 d.2.2.2.2.1
def T61_0q : OutD O61_0q → view_all__view_May_fn1_L0X := fun d => (d.2.2.1, d.2.2.2.1.1, d.2.2.2.2.1)
def e61_0q : Elim view_all__view_May_fn1_L0X := fun base x _ K => K (.exit 0) (stOf base X0_61_0q (((), (), ()), ((), x.1, (x.2.1, ()), x.2.2, ())))
def L61_0q : LoopSum := ⟨I61_0q, O61_0q, view_all__view_May_fn1_L0X, fun k d => c61_0q (view_all__view_May_fn1_L0 k k) d, e61_0q⟩
def A61q : Notes := ⟨[], [(3, L61_0q)]⟩
theorem B61q : EnvB E61q := env_n mixed_orders ⟨F60q, trivial⟩
theorem st61_0q : StepOK E61q A61q 2 23 (loopAt (bodyOf Proofs.Try.f113) 0) I61_0q O61_0q T61_0q c61_0q view_all__view_May_fn1_L0b := by intro k rec d; kernel_rfl
theorem lk61_0q : LoopOK E61q.P 1000 2 23 (loopAt (bodyOf Proofs.Try.f113) 0) L61_0q := loop_b B61q st61_0q view_all__view_May_fn1_L0 e61_0q (fun _ _ _ => rfl) loops0
def as61q : List AX := [.c (.p (.dat false y7q)), .fn 114 [(true, [.map]), (false, [.p (.dat false y7q)])]]
def rs61q : RS := .c (.own y7q)
def os61q : List (List RC) := [[.map]]
def pk61q : (List K1q) × (List (Int × Bool)) → RL (rs61q.cells ++ os61q.flatten) := fun x => (x.1, x.2, ())
def up61q : RL (rs61q.cells ++ os61q.flatten) → (List K1q) × (List (Int × Bool)) := fun d => (d.1, d.2.1)
def s61q (k : Nat) (d : XD as61q) := view_all__view_May_fn1 k d.1 d.2.1 d.2.2.1
def R61q : Nat × Entry := (113, fun k nm args h => entryX as61q rs61q os61q (s61q k) pk61q nm args h)
theorem ev61q : EvOKX E61q A61q 2 Proofs.Try.f113 as61q rs61q os61q up61q s61q := by intro k d; kernel_rfl
theorem F61q : FnOK Proofs.Try.prog R61q := fn_x B61q ev61q (loops1 lk61_0q)

/-! ### giro/view.May -/
noncomputable def E62q : Env := ⟨Proofs.Try.prog, fun _ => false, sumsOf [R56q, R61q]⟩
def A62q : Notes := ⟨[], []⟩
theorem B62q : EnvB E62q := env_n mixed_orders ⟨F56q, F61q, trivial⟩
def as62q : List AS := [.c (.dat false y7q), .c (.int .i64)]
def rs62q : RS := .c (.own y7q)
def pk62q : List K1q → RL rs62q.cells := fun x => (x, ())
def up62q : RL rs62q.cells → List K1q := fun d => d.1
def s62q (k : Nat) (d : AD as62q) := view_May k d.1 d.2.1
def R62q : Nat × Entry := (95, fun k nm args h => entry as62q rs62q (s62q k) pk62q nm args h)
theorem ev62q : EvOK E62q A62q 0 Proofs.Try.f95 as62q rs62q up62q s62q := by intro k d; kernel_rfl
theorem F62q : FnOK Proofs.Try.prog R62q := fn_0 B62q ev62q

/-! ### giro/fits.May -/
noncomputable def E63q : Env := ⟨Proofs.Try.prog, fun _ => false, sumsOf []⟩
def A63q : Notes := ⟨[], []⟩
theorem B63q : EnvB E63q := env_n mixed_orders trivial
def as63q : List AS := [.agg [.dat false y3q, .dat false (.sl (.int .i64)), .dat false (.int .i64), .dat false (.sl (.int .i64))], .agg [.int .i64, .int .i64, .int .i64, .int .i64, .int .i64, .int .i64, .int .i64]]
def rs63q : RS := .c (.bool)
def pk63q : Bool → RL rs63q.cells := fun x => (x, ())
def up63q : RL rs63q.cells → Bool := fun d => d.1
def s63q (k : Nat) (d : AD as63q) := fits_May k d.1 d.2.1 d.2.2.1 d.2.2.2.1 d.2.2.2.2.1 d.2.2.2.2.2.1 d.2.2.2.2.2.2.1 d.2.2.2.2.2.2.2.1 d.2.2.2.2.2.2.2.2.1 d.2.2.2.2.2.2.2.2.2.1 d.2.2.2.2.2.2.2.2.2.2.1
def R63q : Nat × Entry := (118, fun k nm args h => entry as63q rs63q (s63q k) pk63q nm args h)
theorem ev63q : EvOK E63q A63q 0 Proofs.Try.f118 as63q rs63q up63q s63q := by intro k d; kernel_rfl
theorem F63q : FnOK Proofs.Try.prog R63q := fn_0 B63q ev63q

/-! ### giro/fits.Fits$1 -/
noncomputable def E64q : Env := ⟨Proofs.Try.prog, fun _ => false, sumsOf [R63q]⟩
def A64q : Notes := ⟨[], []⟩
theorem B64q : EnvB E64q := env_n mixed_orders ⟨F63q, trivial⟩
def as64q : List AS := [.agg [.int .i64, .int .i64, .int .i64, .int .i64, .int .i64, .int .i64, .int .i64], .ptr [.dat false y3q, .dat false (.sl (.int .i64)), .dat false (.int .i64), .dat false (.sl (.int .i64))]]
def rs64q : RS := .c (.bool)
def pk64q : Bool → RL rs64q.cells := fun x => (x, ())
def up64q : RL rs64q.cells → Bool := fun d => d.1
def s64q (k : Nat) (d : AD as64q) := fits_Fits_fn1 k d.1 d.2.1 d.2.2.1 d.2.2.2.1 d.2.2.2.2.1 d.2.2.2.2.2.1 d.2.2.2.2.2.2.1 d.2.2.2.2.2.2.2.1 d.2.2.2.2.2.2.2.2.1 d.2.2.2.2.2.2.2.2.2.1 d.2.2.2.2.2.2.2.2.2.2.1
def R64q : Nat × Entry := (117, fun k nm args h => entry as64q rs64q (s64q k) pk64q nm args h)
theorem ev64q : EvOK E64q A64q 0 Proofs.Try.f117 as64q rs64q up64q s64q := by intro k d; kernel_rfl
theorem F64q : FnOK Proofs.Try.prog R64q := fn_0 B64q ev64q

/-! ### slices.IndexFunc[[]giro/api.Pay,giro/api.Pay] -/
noncomputable def E65q : Env := ⟨Proofs.Try.prog, fun _ => false, sumsOf [R64q]⟩
def I65_0q : Spec := ⟨[(0, .c (.dat false y7q)), (1, .c (.lit (.fn 117 [1001000]))), (7, .c (.int .i64)), (8, .c (.int .i64))], [.robox [.dat false y3q, .dat false (.sl (.int .i64)), .dat false (.int .i64), .dat false (.sl (.int .i64))]], []⟩
def X0_65_0q : Spec := ⟨[], [], []⟩
def X1_65_0q : Spec := ⟨[(4, .c (.int .i64))], [], []⟩
def O65_0q : List (Ex × Spec) := [(.exit 0, X0_65_0q), (.ret, X1_65_0q)]
def c65_0q (f : slices_IndexFunc_Pay__fits_Fits_fn1_L0T) (d : I65_0q.den) : Option (Unit ⊕ Int) := f d.1.1.1 d.1.2.2.1.1 d.1.2.2.2.1.1 d.2.1.1 d.2.1.2.1 d.2.1.2.2.1 d.2.1.2.2.2.1
def T65_0q : OutD O65_0q → (Unit ⊕ Int)
 | .inl d => .inl ()
 | .inr d => .inr d.1.1.1
def e65_0q : Elim (Unit ⊕ Int) := fun base x _ K => match x with
 | .inl x => K (.exit 0) (stOf base X0_65_0q ((), ()))
 | .inr x => K .ret (stOf base X1_65_0q (((x, ()), ()), ()))
def L65_0q : LoopSum := ⟨I65_0q, O65_0q, (Unit ⊕ Int), fun k d => c65_0q (slices_IndexFunc_Pay__fits_Fits_fn1_L0 k k) d, e65_0q⟩
def A65q : Notes := ⟨[], [(2, L65_0q)]⟩
theorem B65q : EnvB E65q := env_n mixed_orders ⟨F64q, trivial⟩
theorem st65_0q : StepOK E65q A65q 0 19 (loopAt (bodyOf Proofs.Try.f122) 0) I65_0q O65_0q T65_0q c65_0q slices_IndexFunc_Pay__fits_Fits_fn1_L0b := by intro k rec d; kernel_rfl
theorem lk65_0q : LoopOK E65q.P 1000 0 19 (loopAt (bodyOf Proofs.Try.f122) 0) L65_0q := loop_b B65q st65_0q slices_IndexFunc_Pay__fits_Fits_fn1_L0 e65_0q (by intro o R K; rcases o with o | o <;> rfl) loops0
def as65q : List AS := [.c (.dat false y7q), .fn 117 [[.dat false y3q, .dat false (.sl (.int .i64)), .dat false (.int .i64), .dat false (.sl (.int .i64))]]]
def rs65q : RS := .c (.int .i64)
def pk65q : Int → RL rs65q.cells := fun x => (x, ())
def up65q : RL rs65q.cells → Int := fun d => d.1
def s65q (k : Nat) (d : AD as65q) := slices_IndexFunc_Pay__fits_Fits_fn1 k d.1 d.2.1 d.2.2.1 d.2.2.2.1 d.2.2.2.2.1
def R65q : Nat × Entry := (122, fun k nm args h => entry as65q rs65q (s65q k) pk65q nm args h)
theorem ev65q : EvOK E65q A65q 0 Proofs.Try.f122 as65q rs65q up65q s65q := by intro k d; kernel_rfl
theorem F65q : FnOK Proofs.Try.prog R65q := fn_b B65q ev65q (loops1 lk65_0q)

/-! ### slices.ContainsFunc[[]giro/api.Pay,giro/api.Pay] -/
noncomputable def E66q : Env := ⟨Proofs.Try.prog, fun _ => false, sumsOf [R65q]⟩
def A66q : Notes := ⟨[], []⟩
theorem B66q : EnvB E66q := env_n mixed_orders ⟨F65q, trivial⟩
def as66q : List AS := [.c (.dat false y7q), .fn 117 [[.dat false y3q, .dat false (.sl (.int .i64)), .dat false (.int .i64), .dat false (.sl (.int .i64))]]]
def rs66q : RS := .c (.bool)
def pk66q : Bool → RL rs66q.cells := fun x => (x, ())
def up66q : RL rs66q.cells → Bool := fun d => d.1
def s66q (k : Nat) (d : AD as66q) := slices_ContainsFunc_Pay__fits_Fits_fn1 k d.1 d.2.1 d.2.2.1 d.2.2.2.1 d.2.2.2.2.1
def R66q : Nat × Entry := (116, fun k nm args h => entry as66q rs66q (s66q k) pk66q nm args h)
theorem ev66q : EvOK E66q A66q 0 Proofs.Try.f116 as66q rs66q up66q s66q := by intro k d; kernel_rfl
theorem F66q : FnOK Proofs.Try.prog R66q := fn_0 B66q ev66q

/-! ### giro/fits.moved -/
noncomputable def E67q : Env := ⟨Proofs.Try.prog, fun _ => false, sumsOf [R8q, R9q]⟩
def I67_0q : Spec := ⟨[(4, .c (.lit (.ptr 1001000 0))), (5, .c (.lit (.ptr 1001001 0))), (15, .c (.dat false y7q)), (16, .c (.int .i64)), (17, .c (.int .i64))], [.box true [.lit .nsl, .lit .nsl, .lit .nsl], .box true [.lit (.osl 1001002 none), .lit (.osl 1001003 none), .lit (.osl 1001004 none)], .arr true (.int .i64), .arr true (.int .i64), .mat], []⟩
def X0_67_0q : Spec := ⟨[(4, .c (.lit (.ptr 1001000 0))), (5, .c (.lit (.ptr 1001001 0)))], [.box true [.lit .nsl, .lit .nsl, .lit .nsl], .box true [.lit (.osl 1001002 none), .lit (.osl 1001003 none), .lit (.osl 1001004 none)], .arr true (.int .i64), .arr true (.int .i64), .mat], []⟩
def O67_0q : List (Ex × Spec) := [(.exit 0, X0_67_0q)]
def c67_0q (f : fits_moved_L0T) (d : I67_0q.den) : Option fits_moved_L0X := f d.1.2.2.1.1 d.1.2.2.2.1.1 d.1.2.2.2.2.1.1 d.2.2.2.1 d.2.2.2.2.1 d.2.2.2.2.2.1
def T67_0q : OutD O67_0q → fits_moved_L0X := fun d => (d.2.2.2.1, d.2.2.2.2.1, d.2.2.2.2.2.1)
def e67_0q : Elim fits_moved_L0X := fun base x _ K => K (.exit 0) (stOf base X0_67_0q (((), (), ()), ((), (), x.1, x.2.1, x.2.2, ())))
def L67_0q : LoopSum := ⟨I67_0q, O67_0q, fits_moved_L0X, fun k d => c67_0q (fits_moved_L0 k k) d, e67_0q⟩
def A67q : Notes := ⟨[], [(3, L67_0q)]⟩
theorem B67q : EnvB E67q := env_n mixed_orders ⟨F8q, F9q, trivial⟩
theorem st67_0q : StepOK E67q A67q 0 84 (loopAt (bodyOf Proofs.Try.f130) 0) I67_0q O67_0q T67_0q c67_0q fits_moved_L0b := by intro k rec d; kernel_rfl
theorem lk67_0q : LoopOK E67q.P 1000 0 84 (loopAt (bodyOf Proofs.Try.f130) 0) L67_0q := loop_b B67q st67_0q fits_moved_L0 e67_0q (fun _ _ _ => rfl) loops0
def as67q : List AS := [.c (.int .i64), .c (.dat false y7q)]
def rs67q : RS := .agg [.own (.int .i64), .own (.int .i64), .mat]
def pk67q : (List Int) × (List Int) × (List (List Int)) → RL rs67q.cells := fun x => (x.1, x.2.1, x.2.2, ())
def up67q : RL rs67q.cells → (List Int) × (List Int) × (List (List Int)) := fun d => (d.1, d.2.1, d.2.2.1)
def s67q (k : Nat) (d : AD as67q) := fits_moved k d.1 d.2.1
def R67q : Nat × Entry := (130, fun k nm args h => entry as67q rs67q (s67q k) pk67q nm args h)
theorem ev67q : EvOK E67q A67q 0 Proofs.Try.f130 as67q rs67q up67q s67q := by intro k d; kernel_rfl
theorem F67q : FnOK Proofs.Try.prog R67q := fn_b B67q ev67q (loops1 lk67_0q)

/-! ### giro/fits.Short$1 -/
noncomputable def E68q : Env := ⟨Proofs.Try.prog, fun _ => false, sumsOf []⟩
def A68q : Notes := ⟨[], []⟩
theorem B68q : EnvB E68q := env_n mixed_orders trivial
def as68q : List AS := [.agg [.int .i64, .int .i64, .int .i64, .int .i64, .int .i64, .int .i64, .int .i64], .ptr [.int .i64]]
def rs68q : RS := .c (.bool)
def pk68q : Bool → RL rs68q.cells := fun x => (x, ())
def up68q : RL rs68q.cells → Bool := fun d => d.1
def s68q (k : Nat) (d : AD as68q) := fits_Short_fn1 k d.1 d.2.1 d.2.2.1 d.2.2.2.1 d.2.2.2.2.1 d.2.2.2.2.2.1 d.2.2.2.2.2.2.1 d.2.2.2.2.2.2.2.1
def R68q : Nat × Entry := (131, fun k nm args h => entry as68q rs68q (s68q k) pk68q nm args h)
theorem ev68q : EvOK E68q A68q 0 Proofs.Try.f131 as68q rs68q up68q s68q := by intro k d; kernel_rfl
theorem F68q : FnOK Proofs.Try.prog R68q := fn_0 B68q ev68q

/-! ### slices.IndexFunc[[]giro/api.Pay,giro/api.Pay] -/
noncomputable def E69q : Env := ⟨Proofs.Try.prog, fun _ => false, sumsOf [R68q]⟩
def I69_0q : Spec := ⟨[(0, .c (.dat false y7q)), (1, .c (.lit (.fn 131 [1001000]))), (7, .c (.int .i64)), (8, .c (.int .i64))], [.robox [.int .i64]], []⟩
def X0_69_0q : Spec := ⟨[], [], []⟩
def X1_69_0q : Spec := ⟨[(4, .c (.int .i64))], [], []⟩
def O69_0q : List (Ex × Spec) := [(.exit 0, X0_69_0q), (.ret, X1_69_0q)]
def c69_0q (f : slices_IndexFunc_Pay__fits_Short_fn1_L0T) (d : I69_0q.den) : Option (Unit ⊕ Int) := f d.1.1.1 d.1.2.2.1.1 d.1.2.2.2.1.1 d.2.1.1
def T69_0q : OutD O69_0q → (Unit ⊕ Int)
 | .inl d => .inl ()
 | .inr d => .inr d.1.1.1
def e69_0q : Elim (Unit ⊕ Int) := fun base x _ K => match x with
 | .inl x => K (.exit 0) (stOf base X0_69_0q ((), ()))
 | .inr x => K .ret (stOf base X1_69_0q (((x, ()), ()), ()))
def L69_0q : LoopSum := ⟨I69_0q, O69_0q, (Unit ⊕ Int), fun k d => c69_0q (slices_IndexFunc_Pay__fits_Short_fn1_L0 k k) d, e69_0q⟩
def A69q : Notes := ⟨[], [(2, L69_0q)]⟩
theorem B69q : EnvB E69q := env_n mixed_orders ⟨F68q, trivial⟩
theorem st69_0q : StepOK E69q A69q 0 19 (loopAt (bodyOf Proofs.Try.f122) 0) I69_0q O69_0q T69_0q c69_0q slices_IndexFunc_Pay__fits_Short_fn1_L0b := by intro k rec d; kernel_rfl
theorem lk69_0q : LoopOK E69q.P 1000 0 19 (loopAt (bodyOf Proofs.Try.f122) 0) L69_0q := loop_b B69q st69_0q slices_IndexFunc_Pay__fits_Short_fn1_L0 e69_0q (by intro o R K; rcases o with o | o <;> rfl) loops0
def as69q : List AS := [.c (.dat false y7q), .fn 131 [[.int .i64]]]
def rs69q : RS := .c (.int .i64)
def pk69q : Int → RL rs69q.cells := fun x => (x, ())
def up69q : RL rs69q.cells → Int := fun d => d.1
def s69q (k : Nat) (d : AD as69q) := slices_IndexFunc_Pay__fits_Short_fn1 k d.1 d.2.1
def R69q : Nat × Entry := (122, fun k nm args h => entry as69q rs69q (s69q k) pk69q nm args h)
theorem ev69q : EvOK E69q A69q 0 Proofs.Try.f122 as69q rs69q up69q s69q := by intro k d; kernel_rfl
theorem F69q : FnOK Proofs.Try.prog R69q := fn_b B69q ev69q (loops1 lk69_0q)

/-! ### slices.ContainsFunc[[]giro/api.Pay,giro/api.Pay] -/
noncomputable def E70q : Env := ⟨Proofs.Try.prog, fun _ => false, sumsOf [R69q]⟩
def A70q : Notes := ⟨[], []⟩
theorem B70q : EnvB E70q := env_n mixed_orders ⟨F69q, trivial⟩
def as70q : List AS := [.c (.dat false y7q), .fn 131 [[.int .i64]]]
def rs70q : RS := .c (.bool)
def pk70q : Bool → RL rs70q.cells := fun x => (x, ())
def up70q : RL rs70q.cells → Bool := fun d => d.1
def s70q (k : Nat) (d : AD as70q) := slices_ContainsFunc_Pay__fits_Short_fn1 k d.1 d.2.1
def R70q : Nat × Entry := (116, fun k nm args h => entry as70q rs70q (s70q k) pk70q nm args h)
theorem ev70q : EvOK E70q A70q 0 Proofs.Try.f116 as70q rs70q up70q s70q := by intro k d; kernel_rfl
theorem F70q : FnOK Proofs.Try.prog R70q := fn_0 B70q ev70q

/-! ### giro/fits.over -/
noncomputable def E71q : Env := ⟨Proofs.Try.prog, fun _ => false, sumsOf []⟩
def A71q : Notes := ⟨[], []⟩
theorem B71q : EnvB E71q := env_n mixed_orders trivial
def as71q : List AS := [.c (.int .i64), .c (.int .i64)]
def rs71q : RS := .c (.bool)
def pk71q : Bool → RL rs71q.cells := fun x => (x, ())
def up71q : RL rs71q.cells → Bool := fun d => d.1
def s71q (k : Nat) (d : AD as71q) := fits_over k d.1 d.2.1
def R71q : Nat × Entry := (134, fun k nm args h => entry as71q rs71q (s71q k) pk71q nm args h)
theorem ev71q : EvOK E71q A71q 0 Proofs.Try.f134 as71q rs71q up71q s71q := by intro k d; kernel_rfl
theorem F71q : FnOK Proofs.Try.prog R71q := fn_0 B71q ev71q

/-! ### giro/acct.Kept -/
noncomputable def E72q : Env := ⟨Proofs.Try.prog, fun _ => false, sumsOf []⟩
def A72q : Notes := ⟨[], []⟩
theorem B72q : EnvB E72q := env_n mixed_orders trivial
def as72q : List AS := [.agg [.int .i64, .int .i64, .int .i64], .c (.int .i64)]
def rs72q : RS := .c (.int .i64)
def pk72q : Int → RL rs72q.cells := fun x => (x, ())
def up72q : RL rs72q.cells → Int := fun d => d.1
def s72q (k : Nat) (d : AD as72q) := acct_Kept k d.1 d.2.1 d.2.2.1 d.2.2.2.1
def R72q : Nat × Entry := (121, fun k nm args h => entry as72q rs72q (s72q k) pk72q nm args h)
theorem ev72q : EvOK E72q A72q 0 Proofs.Try.f121 as72q rs72q up72q s72q := by intro k d; kernel_rfl
theorem F72q : FnOK Proofs.Try.prog R72q := fn_0 B72q ev72q

/-! ### (giro/fits.move).isShort$1 -/
noncomputable def E73q : Env := ⟨Proofs.Try.prog, fun _ => false, sumsOf [R72q, R71q]⟩
def A73q : Notes := ⟨[], []⟩
theorem B73q : EnvB E73q := env_n mixed_orders ⟨F72q, F71q, trivial⟩
def as73q : List AS := [.agg [.int .i64, .int .i64, .int .i64, .int .i64, .int .i64, .int .i64, .int .i64], .ptr [.int .i64], .ptr [.int .i64, .int .i64, .int .i64], .ptr [.dat false (.int .i64), .dat false (.int .i64), .dat false (.sl (.int .i64))], .ptr [.int .i64], .ptr [.dat false y3q, .dat false (.sl (.int .i64)), .dat false (.int .i64), .dat false (.sl (.int .i64))]]
def rs73q : RS := .c (.bool)
def pk73q : Bool → RL rs73q.cells := fun x => (x, ())
def up73q : RL rs73q.cells → Bool := fun d => d.1
def s73q (k : Nat) (d : AD as73q) := fits_move_isShort_fn1 k d.1 d.2.1 d.2.2.1 d.2.2.2.1 d.2.2.2.2.1 d.2.2.2.2.2.1 d.2.2.2.2.2.2.1 d.2.2.2.2.2.2.2.1 d.2.2.2.2.2.2.2.2.1 d.2.2.2.2.2.2.2.2.2.1 d.2.2.2.2.2.2.2.2.2.2.1 d.2.2.2.2.2.2.2.2.2.2.2.1 d.2.2.2.2.2.2.2.2.2.2.2.2.1 d.2.2.2.2.2.2.2.2.2.2.2.2.2.1 d.2.2.2.2.2.2.2.2.2.2.2.2.2.2.1 d.2.2.2.2.2.2.2.2.2.2.2.2.2.2.2.1 d.2.2.2.2.2.2.2.2.2.2.2.2.2.2.2.2.1 d.2.2.2.2.2.2.2.2.2.2.2.2.2.2.2.2.2.1 d.2.2.2.2.2.2.2.2.2.2.2.2.2.2.2.2.2.2.1
def R73q : Nat × Entry := (135, fun k nm args h => entry as73q rs73q (s73q k) pk73q nm args h)
theorem ev73q : EvOK E73q A73q 0 Proofs.Try.f135 as73q rs73q up73q s73q := by intro k d; kernel_rfl
theorem F73q : FnOK Proofs.Try.prog R73q := fn_0 B73q ev73q

/-! ### slices.IndexFunc[[]giro/api.Pay,giro/api.Pay] -/
noncomputable def E74q : Env := ⟨Proofs.Try.prog, fun _ => false, sumsOf [R73q]⟩
def I74_0q : Spec := ⟨[(0, .c (.dat false y7q)), (1, .c (.lit (.fn 135 [1001000, 1001001, 1001002, 1001003, 1001004]))), (7, .c (.int .i64)), (8, .c (.int .i64))], [.robox [.int .i64], .robox [.int .i64, .int .i64, .int .i64], .robox [.dat false (.int .i64), .dat false (.int .i64), .dat false (.sl (.int .i64))], .robox [.int .i64], .robox [.dat false y3q, .dat false (.sl (.int .i64)), .dat false (.int .i64), .dat false (.sl (.int .i64))]], []⟩
def X0_74_0q : Spec := ⟨[], [], []⟩
def X1_74_0q : Spec := ⟨[(4, .c (.int .i64))], [], []⟩
def O74_0q : List (Ex × Spec) := [(.exit 0, X0_74_0q), (.ret, X1_74_0q)]
def c74_0q (f : slices_IndexFunc_Pay__fits_move_isShort_fn1_L0T) (d : I74_0q.den) : Option (Unit ⊕ Int) := f d.1.1.1 d.1.2.2.1.1 d.1.2.2.2.1.1 d.2.1.1 d.2.2.1.1 d.2.2.1.2.1 d.2.2.1.2.2.1 d.2.2.2.1.1 d.2.2.2.1.2.1 d.2.2.2.1.2.2.1 d.2.2.2.2.1.1 d.2.2.2.2.2.1.1 d.2.2.2.2.2.1.2.1 d.2.2.2.2.2.1.2.2.1 d.2.2.2.2.2.1.2.2.2.1
def T74_0q : OutD O74_0q → (Unit ⊕ Int)
 | .inl d => .inl ()
 | .inr d => .inr d.1.1.1
def e74_0q : Elim (Unit ⊕ Int) := fun base x _ K => match x with
 | .inl x => K (.exit 0) (stOf base X0_74_0q ((), ()))
 | .inr x => K .ret (stOf base X1_74_0q (((x, ()), ()), ()))
def L74_0q : LoopSum := ⟨I74_0q, O74_0q, (Unit ⊕ Int), fun k d => c74_0q (slices_IndexFunc_Pay__fits_move_isShort_fn1_L0 k k) d, e74_0q⟩
def A74q : Notes := ⟨[], [(2, L74_0q)]⟩
theorem B74q : EnvB E74q := env_n mixed_orders ⟨F73q, trivial⟩
theorem st74_0q : StepOK E74q A74q 0 19 (loopAt (bodyOf Proofs.Try.f122) 0) I74_0q O74_0q T74_0q c74_0q slices_IndexFunc_Pay__fits_move_isShort_fn1_L0b := by intro k rec d; kernel_rfl
theorem lk74_0q : LoopOK E74q.P 1000 0 19 (loopAt (bodyOf Proofs.Try.f122) 0) L74_0q := loop_b B74q st74_0q slices_IndexFunc_Pay__fits_move_isShort_fn1_L0 e74_0q (by intro o R K; rcases o with o | o <;> rfl) loops0
def as74q : List AS := [.c (.dat false y7q), .fn 135 [[.int .i64], [.int .i64, .int .i64, .int .i64], [.dat false (.int .i64), .dat false (.int .i64), .dat false (.sl (.int .i64))], [.int .i64], [.dat false y3q, .dat false (.sl (.int .i64)), .dat false (.int .i64), .dat false (.sl (.int .i64))]]]
def rs74q : RS := .c (.int .i64)
def pk74q : Int → RL rs74q.cells := fun x => (x, ())
def up74q : RL rs74q.cells → Int := fun d => d.1
def s74q (k : Nat) (d : AD as74q) := slices_IndexFunc_Pay__fits_move_isShort_fn1 k d.1 d.2.1 d.2.2.1 d.2.2.2.1 d.2.2.2.2.1 d.2.2.2.2.2.1 d.2.2.2.2.2.2.1 d.2.2.2.2.2.2.2.1 d.2.2.2.2.2.2.2.2.1 d.2.2.2.2.2.2.2.2.2.1 d.2.2.2.2.2.2.2.2.2.2.1 d.2.2.2.2.2.2.2.2.2.2.2.1 d.2.2.2.2.2.2.2.2.2.2.2.2.1
def R74q : Nat × Entry := (122, fun k nm args h => entry as74q rs74q (s74q k) pk74q nm args h)
theorem ev74q : EvOK E74q A74q 0 Proofs.Try.f122 as74q rs74q up74q s74q := by intro k d; kernel_rfl
theorem F74q : FnOK Proofs.Try.prog R74q := fn_b B74q ev74q (loops1 lk74_0q)

/-! ### slices.ContainsFunc[[]giro/api.Pay,giro/api.Pay] -/
noncomputable def E75q : Env := ⟨Proofs.Try.prog, fun _ => false, sumsOf [R74q]⟩
def A75q : Notes := ⟨[], []⟩
theorem B75q : EnvB E75q := env_n mixed_orders ⟨F74q, trivial⟩
def as75q : List AS := [.c (.dat false y7q), .fn 135 [[.int .i64], [.int .i64, .int .i64, .int .i64], [.dat false (.int .i64), .dat false (.int .i64), .dat false (.sl (.int .i64))], [.int .i64], [.dat false y3q, .dat false (.sl (.int .i64)), .dat false (.int .i64), .dat false (.sl (.int .i64))]]]
def rs75q : RS := .c (.bool)
def pk75q : Bool → RL rs75q.cells := fun x => (x, ())
def up75q : RL rs75q.cells → Bool := fun d => d.1
def s75q (k : Nat) (d : AD as75q) := slices_ContainsFunc_Pay__fits_move_isShort_fn1 k d.1 d.2.1 d.2.2.1 d.2.2.2.1 d.2.2.2.2.1 d.2.2.2.2.2.1 d.2.2.2.2.2.2.1 d.2.2.2.2.2.2.2.1 d.2.2.2.2.2.2.2.2.1 d.2.2.2.2.2.2.2.2.2.1 d.2.2.2.2.2.2.2.2.2.2.1 d.2.2.2.2.2.2.2.2.2.2.2.1 d.2.2.2.2.2.2.2.2.2.2.2.2.1
def R75q : Nat × Entry := (116, fun k nm args h => entry as75q rs75q (s75q k) pk75q nm args h)
theorem ev75q : EvOK E75q A75q 0 Proofs.Try.f116 as75q rs75q up75q s75q := by intro k d; kernel_rfl
theorem F75q : FnOK Proofs.Try.prog R75q := fn_0 B75q ev75q

/-! ### (giro/fits.move).isShort -/
noncomputable def E76q : Env := ⟨Proofs.Try.prog, fun _ => false, sumsOf [R4q, R71q, R75q]⟩
def I76_0q : Spec := ⟨[(3, .c (.dat false y7q)), (4, .c (.lit (.ptr 1001000 0))), (5, .c (.lit (.ptr 1001001 0))), (6, .c (.lit (.ptr 1001002 0))), (9, .c (.lit (.ptr 1001003 0))), (10, .c (.lit (.ptr 1001004 0))), (11, .c (.int .i64)), (39, .c (.dat false (.int .i64))), (40, .c (.int .i64)), (41, .c (.int .i64))], [.box true [.dat false (.int .i64), .dat false (.int .i64), .dat false (.sl (.int .i64))], .box true [.dat false y3q, .dat false (.sl (.int .i64)), .dat false (.int .i64), .dat false (.sl (.int .i64))], .box true [.int .i64], .box true [.int .i64, .int .i64, .int .i64], .box true [.int .i64]], []⟩
def X0_76_0q : Spec := ⟨[(3, .c (.dat false y7q)), (4, .c (.lit (.ptr 1001000 0))), (5, .c (.lit (.ptr 1001001 0))), (6, .c (.lit (.ptr 1001002 0))), (9, .c (.lit (.ptr 1001003 0))), (10, .c (.lit (.ptr 1001004 0))), (11, .c (.int .i64))], [.box true [.dat false (.int .i64), .dat false (.int .i64), .dat false (.sl (.int .i64))], .box true [.dat false y3q, .dat false (.sl (.int .i64)), .dat false (.int .i64), .dat false (.sl (.int .i64))], .box true [.int .i64], .box true [.int .i64, .int .i64, .int .i64], .box true [.int .i64]], []⟩
def O76_0q : List (Ex × Spec) := [(.exit 0, X0_76_0q)]
def c76_0q (f : fits_move_isShort_L0T) (d : I76_0q.den) : Option fits_move_isShort_L0X := f d.1.1.1 d.1.2.2.2.2.2.2.1.1 d.1.2.2.2.2.2.2.2.1.1 d.1.2.2.2.2.2.2.2.2.1.1 d.1.2.2.2.2.2.2.2.2.2.1.1 d.2.1.1 d.2.1.2.1 d.2.1.2.2.1 d.2.2.1.1 d.2.2.1.2.1 d.2.2.1.2.2.1 d.2.2.1.2.2.2.1 d.2.2.2.1.1 d.2.2.2.2.1.1 d.2.2.2.2.1.2.1 d.2.2.2.2.1.2.2.1 d.2.2.2.2.2.1.1
def T76_0q : OutD O76_0q → fits_move_isShort_L0X := fun d => (d.1.1.1, d.1.2.2.2.2.2.2.1.1, d.2.1.1, d.2.1.2.1, d.2.1.2.2.1, d.2.2.1.1, d.2.2.1.2.1, d.2.2.1.2.2.1, d.2.2.1.2.2.2.1, d.2.2.2.1.1, d.2.2.2.2.1.1, d.2.2.2.2.1.2.1, d.2.2.2.2.1.2.2.1, d.2.2.2.2.2.1.1)
def e76_0q : Elim fits_move_isShort_L0X := fun base x _ K => K (.exit 0) (stOf base X0_76_0q (((x.1, ()), (), (), (), (), (), (x.2.1, ()), ()), ((x.2.2.1, x.2.2.2.1, x.2.2.2.2.1, ()), (x.2.2.2.2.2.1, x.2.2.2.2.2.2.1, x.2.2.2.2.2.2.2.1, x.2.2.2.2.2.2.2.2.1, ()), (x.2.2.2.2.2.2.2.2.2.1, ()), (x.2.2.2.2.2.2.2.2.2.2.1, x.2.2.2.2.2.2.2.2.2.2.2.1, x.2.2.2.2.2.2.2.2.2.2.2.2.1, ()), (x.2.2.2.2.2.2.2.2.2.2.2.2.2, ()), ())))
def L76_0q : LoopSum := ⟨I76_0q, O76_0q, fits_move_isShort_L0X, fun k d => c76_0q (fits_move_isShort_L0 k k) d, e76_0q⟩
def A76q : Notes := ⟨[], [(7, L76_0q)]⟩
theorem B76q : EnvB E76q := env_n mixed_orders ⟨F4q, F71q, F75q, trivial⟩
theorem st76_0q : StepOK E76q A76q 0 59 (loopAt (bodyOf Proofs.Try.f132) 0) I76_0q O76_0q T76_0q c76_0q fits_move_isShort_L0b := by intro k rec d; kernel_rfl
theorem lk76_0q : LoopOK E76q.P 1000 0 59 (loopAt (bodyOf Proofs.Try.f132) 0) L76_0q := loop_b B76q st76_0q fits_move_isShort_L0 e76_0q (fun _ _ _ => rfl) loops0
def as76q : List AS := [.agg [.dat false (.int .i64), .dat false (.int .i64), .dat false (.sl (.int .i64))], .agg [.dat false y3q, .dat false (.sl (.int .i64)), .dat false (.int .i64), .dat false (.sl (.int .i64))], .c (.int .i64), .c (.dat false y7q)]
def rs76q : RS := .c (.bool)
def pk76q : Bool → RL rs76q.cells := fun x => (x, ())
def up76q : RL rs76q.cells → Bool := fun d => d.1
def s76q (k : Nat) (d : AD as76q) := fits_move_isShort k d.1 d.2.1 d.2.2.1 d.2.2.2.1 d.2.2.2.2.1 d.2.2.2.2.2.1 d.2.2.2.2.2.2.1 d.2.2.2.2.2.2.2.1 d.2.2.2.2.2.2.2.2.1
def R76q : Nat × Entry := (132, fun k nm args h => entry as76q rs76q (s76q k) pk76q nm args h)
theorem ev76q : EvOK E76q A76q 0 Proofs.Try.f132 as76q rs76q up76q s76q := by intro k d; kernel_rfl
theorem F76q : FnOK Proofs.Try.prog R76q := fn_b B76q ev76q (loops1 lk76_0q)

/-! ### giro/fits.Short -/
noncomputable def E77q : Env := ⟨Proofs.Try.prog, fun _ => false, sumsOf [R67q, R70q, R76q]⟩
def I77_0q : Spec := ⟨[(1, .c (.dat false y7q)), (2, .c (.lit (.ptr 1001000 0))), (5, .c (.lit (.ptr 1001001 0))), (6, .c (.lit (.osl 1001005 none))), (16, .c (.int .i64)), (17, .c (.int .i64))], [.box true [.dat false y3q, .dat false (.sl (.int .i64)), .dat false (.int .i64), .dat false (.sl (.int .i64))], .box true [.lit (.osl 1001002 none), .lit (.osl 1001003 none), .lit (.osl 1001004 none)], .arr true (.int .i64), .arr true (.int .i64), .mat, .arr true (.int .i64)], [(6, none, (.int .i64), false)]⟩
def X0_77_0q : Spec := ⟨[(6, .c (.lit (.osl 1001000 none)))], [.arr true (.int .i64)], []⟩
def O77_0q : List (Ex × Spec) := [(.exit 0, X0_77_0q)]
def c77_0q (f : fits_Short_L0T) (d : I77_0q.den) : Option (List Int) := f d.1.1.1 d.1.2.2.2.2.1.1 d.1.2.2.2.2.2.1.1 d.2.1.1 d.2.1.2.1 d.2.1.2.2.1 d.2.1.2.2.2.1 d.2.2.2.1 d.2.2.2.2.1 d.2.2.2.2.2.1 d.2.2.2.2.2.2.1
def T77_0q : OutD O77_0q → (List Int) := fun d => d.2.1
def e77_0q : Elim (List Int) := fun base x _ K => K (.exit 0) (stOf base X0_77_0q (((), ()), (x, ())))
def L77_0q : LoopSum := ⟨I77_0q, O77_0q, (List Int), fun k d => c77_0q (fits_Short_L0 k k) d, e77_0q⟩
def A77q : Notes := ⟨[], [(4, L77_0q)]⟩
theorem B77q : EnvB E77q := env_n mixed_orders ⟨F67q, F70q, F76q, trivial⟩
theorem st77_0q : StepOK E77q A77q 0 37 (loopAt (bodyOf Proofs.Try.f119) 0) I77_0q O77_0q T77_0q c77_0q fits_Short_L0b := by intro k rec d; kernel_rfl
theorem lk77_0q : LoopOK E77q.P 1000 0 37 (loopAt (bodyOf Proofs.Try.f119) 0) L77_0q := loop_b B77q st77_0q fits_Short_L0 e77_0q (fun _ _ _ => rfl) loops0
def as77q : List AS := [.agg [.dat false y3q, .dat false (.sl (.int .i64)), .dat false (.int .i64), .dat false (.sl (.int .i64))], .c (.dat false y7q)]
def rs77q : RS := .c (.own (.int .i64))
def pk77q : List Int → RL rs77q.cells := fun x => (x, ())
def up77q : RL rs77q.cells → List Int := fun d => d.1
def s77q (k : Nat) (d : AD as77q) := fits_Short k d.1 d.2.1 d.2.2.1 d.2.2.2.1 d.2.2.2.2.1
def R77q : Nat × Entry := (119, fun k nm args h => entry as77q rs77q (s77q k) pk77q nm args h)
theorem ev77q : EvOK E77q A77q 0 Proofs.Try.f119 as77q rs77q up77q s77q := by intro k d; kernel_rfl
theorem F77q : FnOK Proofs.Try.prog R77q := fn_b B77q ev77q (loops1 lk77_0q)

/-! ### giro/fits.Fits -/
noncomputable def E78q : Env := ⟨Proofs.Try.prog, fun _ => false, sumsOf [R66q, R77q]⟩
def A78q : Notes := ⟨[], []⟩
theorem B78q : EnvB E78q := env_n mixed_orders ⟨F66q, F77q, trivial⟩
def as78q : List AS := [.agg [.dat false y3q, .dat false (.sl (.int .i64)), .dat false (.int .i64), .dat false (.sl (.int .i64))], .c (.dat false y7q)]
def rs78q : RS := .c (.bool)
def pk78q : Bool → RL rs78q.cells := fun x => (x, ())
def up78q : RL rs78q.cells → Bool := fun d => d.1
def s78q (k : Nat) (d : AD as78q) := fits_Fits k d.1 d.2.1 d.2.2.1 d.2.2.2.1 d.2.2.2.2.1
def R78q : Nat × Entry := (96, fun k nm args h => entry as78q rs78q (s78q k) pk78q nm args h)
theorem ev78q : EvOK E78q A78q 0 Proofs.Try.f96 as78q rs78q up78q s78q := by intro k d; kernel_rfl
theorem F78q : FnOK Proofs.Try.prog R78q := fn_0 B78q ev78q

/-! ### giro/post.Post$1 -/
noncomputable def E79q : Env := ⟨Proofs.Try.prog, fun _ => false, sumsOf [R63q]⟩
def A79q : Notes := ⟨[], []⟩
theorem B79q : EnvB E79q := env_n mixed_orders ⟨F63q, trivial⟩
def as79q : List AS := [.agg [.int .i64, .int .i64, .int .i64, .int .i64, .int .i64, .int .i64, .int .i64], .ptr [.dat false y3q, .dat false (.sl (.int .i64)), .dat false (.int .i64), .dat false (.sl (.int .i64))]]
def rs79q : RS := .c (.bool)
def pk79q : Bool → RL rs79q.cells := fun x => (x, ())
def up79q : RL rs79q.cells → Bool := fun d => d.1
def s79q (k : Nat) (d : AD as79q) := post_Post_fn1 k d.1 d.2.1 d.2.2.1 d.2.2.2.1 d.2.2.2.2.1 d.2.2.2.2.2.1 d.2.2.2.2.2.2.1 d.2.2.2.2.2.2.2.1 d.2.2.2.2.2.2.2.2.1 d.2.2.2.2.2.2.2.2.2.1 d.2.2.2.2.2.2.2.2.2.2.1
def R79q : Nat × Entry := (120, fun k nm args h => entry as79q rs79q (s79q k) pk79q nm args h)
theorem ev79q : EvOK E79q A79q 0 Proofs.Try.f120 as79q rs79q up79q s79q := by intro k d; kernel_rfl
theorem F79q : FnOK Proofs.Try.prog R79q := fn_0 B79q ev79q

/-! ### slices.IndexFunc[[]giro/api.Pay,giro/api.Pay] -/
noncomputable def E80q : Env := ⟨Proofs.Try.prog, fun _ => false, sumsOf [R79q]⟩
def I80_0q : Spec := ⟨[(0, .c (.dat false y7q)), (1, .c (.lit (.fn 120 [1001000]))), (7, .c (.int .i64)), (8, .c (.int .i64))], [.robox [.dat false y3q, .dat false (.sl (.int .i64)), .dat false (.int .i64), .dat false (.sl (.int .i64))]], []⟩
def X0_80_0q : Spec := ⟨[], [], []⟩
def X1_80_0q : Spec := ⟨[(4, .c (.int .i64))], [], []⟩
def O80_0q : List (Ex × Spec) := [(.exit 0, X0_80_0q), (.ret, X1_80_0q)]
def c80_0q (f : slices_IndexFunc_Pay__post_Post_fn1_L0T) (d : I80_0q.den) : Option (Unit ⊕ Int) := f d.1.1.1 d.1.2.2.1.1 d.1.2.2.2.1.1 d.2.1.1 d.2.1.2.1 d.2.1.2.2.1 d.2.1.2.2.2.1
def T80_0q : OutD O80_0q → (Unit ⊕ Int)
 | .inl d => .inl ()
 | .inr d => .inr d.1.1.1
def e80_0q : Elim (Unit ⊕ Int) := fun base x _ K => match x with
 | .inl x => K (.exit 0) (stOf base X0_80_0q ((), ()))
 | .inr x => K .ret (stOf base X1_80_0q (((x, ()), ()), ()))
def L80_0q : LoopSum := ⟨I80_0q, O80_0q, (Unit ⊕ Int), fun k d => c80_0q (slices_IndexFunc_Pay__post_Post_fn1_L0 k k) d, e80_0q⟩
def A80q : Notes := ⟨[], [(2, L80_0q)]⟩
theorem B80q : EnvB E80q := env_n mixed_orders ⟨F79q, trivial⟩
theorem st80_0q : StepOK E80q A80q 0 19 (loopAt (bodyOf Proofs.Try.f122) 0) I80_0q O80_0q T80_0q c80_0q slices_IndexFunc_Pay__post_Post_fn1_L0b := by intro k rec d; kernel_rfl
theorem lk80_0q : LoopOK E80q.P 1000 0 19 (loopAt (bodyOf Proofs.Try.f122) 0) L80_0q := loop_b B80q st80_0q slices_IndexFunc_Pay__post_Post_fn1_L0 e80_0q (by intro o R K; rcases o with o | o <;> rfl) loops0
def as80q : List AS := [.c (.dat false y7q), .fn 120 [[.dat false y3q, .dat false (.sl (.int .i64)), .dat false (.int .i64), .dat false (.sl (.int .i64))]]]
def rs80q : RS := .c (.int .i64)
def pk80q : Int → RL rs80q.cells := fun x => (x, ())
def up80q : RL rs80q.cells → Int := fun d => d.1
def s80q (k : Nat) (d : AD as80q) := slices_IndexFunc_Pay__post_Post_fn1 k d.1 d.2.1 d.2.2.1 d.2.2.2.1 d.2.2.2.2.1
def R80q : Nat × Entry := (122, fun k nm args h => entry as80q rs80q (s80q k) pk80q nm args h)
theorem ev80q : EvOK E80q A80q 0 Proofs.Try.f122 as80q rs80q up80q s80q := by intro k d; kernel_rfl
theorem F80q : FnOK Proofs.Try.prog R80q := fn_b B80q ev80q (loops1 lk80_0q)

/-! ### slices.ContainsFunc[[]giro/api.Pay,giro/api.Pay] -/
noncomputable def E81q : Env := ⟨Proofs.Try.prog, fun _ => false, sumsOf [R80q]⟩
def A81q : Notes := ⟨[], []⟩
theorem B81q : EnvB E81q := env_n mixed_orders ⟨F80q, trivial⟩
def as81q : List AS := [.c (.dat false y7q), .fn 120 [[.dat false y3q, .dat false (.sl (.int .i64)), .dat false (.int .i64), .dat false (.sl (.int .i64))]]]
def rs81q : RS := .c (.bool)
def pk81q : Bool → RL rs81q.cells := fun x => (x, ())
def up81q : RL rs81q.cells → Bool := fun d => d.1
def s81q (k : Nat) (d : AD as81q) := slices_ContainsFunc_Pay__post_Post_fn1 k d.1 d.2.1 d.2.2.1 d.2.2.2.1 d.2.2.2.2.1
def R81q : Nat × Entry := (116, fun k nm args h => entry as81q rs81q (s81q k) pk81q nm args h)
theorem ev81q : EvOK E81q A81q 0 Proofs.Try.f116 as81q rs81q up81q s81q := by intro k d; kernel_rfl
theorem F81q : FnOK Proofs.Try.prog R81q := fn_0 B81q ev81q

/-! ### giro/post.Post -/
noncomputable def E82q : Env := ⟨Proofs.Try.prog, fun _ => false, sumsOf [R81q, R34q, R72q, R29q]⟩
def I82_0q : Spec := ⟨[(2, .c (.lit (.ptr 1001000 0))), (4, .c (.lit (.ptr 1001001 0))), (7, .c (.lit (.ptr 1001002 0))), (24, .c (.dat false y7q)), (25, .c (.int .i64)), (26, .c (.int .i64))], [.box true [.dat true y3q, .dat true (.sl (.int .i64)), .dat true (.int .i64), .dat true (.sl (.int .i64))], .box true [.lit .nsl, .lit .nsl, .lit .nsl, .lit .nsl], .box true [.lit (.osl 1001003 none), .lit (.osl 1001004 none), .lit (.osl 1001005 none), .lit (.osl 1001006 none)], .arr true y3q, .mat, .arr true (.int .i64), .mat], []⟩
def X0_82_0q : Spec := ⟨[(2, .c (.lit (.ptr 1001000 0))), (4, .c (.lit (.ptr 1001001 0))), (7, .c (.lit (.ptr 1001002 0)))], [.box true [.dat true y3q, .dat true (.sl (.int .i64)), .dat true (.int .i64), .dat true (.sl (.int .i64))], .box true [.lit .nsl, .lit .nsl, .lit .nsl, .lit .nsl], .box true [.lit (.osl 1001003 none), .lit (.osl 1001004 none), .lit (.osl 1001005 none), .lit (.osl 1001006 none)], .arr true y3q, .mat, .arr true (.int .i64), .mat], []⟩
def O82_0q : List (Ex × Spec) := [(.exit 0, X0_82_0q)]
def c82_0q (f : post_Post_L0T) (d : I82_0q.den) : Option post_Post_L0X := f d.1.2.2.2.1.1 d.1.2.2.2.2.1.1 d.1.2.2.2.2.2.1.1 d.2.1.1 d.2.1.2.1 d.2.1.2.2.1 d.2.1.2.2.2.1 d.2.2.2.2.1 d.2.2.2.2.2.1 d.2.2.2.2.2.2.1 d.2.2.2.2.2.2.2.1
def T82_0q : OutD O82_0q → post_Post_L0X := fun d => (d.2.1.1, d.2.1.2.1, d.2.1.2.2.1, d.2.1.2.2.2.1, d.2.2.2.2.1, d.2.2.2.2.2.1, d.2.2.2.2.2.2.1, d.2.2.2.2.2.2.2.1)
def e82_0q : Elim post_Post_L0X := fun base x _ K => K (.exit 0) (stOf base X0_82_0q (((), (), (), ()), ((x.1, x.2.1, x.2.2.1, x.2.2.2.1, ()), (), (), x.2.2.2.2.1, x.2.2.2.2.2.1, x.2.2.2.2.2.2.1, x.2.2.2.2.2.2.2, ())))
def L82_0q : LoopSum := ⟨I82_0q, O82_0q, post_Post_L0X, fun k d => c82_0q (post_Post_L0 k k) d, e82_0q⟩
def A82q : Notes := ⟨[], [(6, L82_0q)]⟩
theorem B82q : EnvB E82q := env_n mixed_orders ⟨F81q, F34q, F72q, F29q, trivial⟩
theorem st82_0q : StepOK E82q A82q 0 104 (loopAt (bodyOf Proofs.Try.f97) 0) I82_0q O82_0q T82_0q c82_0q post_Post_L0b := by intro k rec d; kernel_rfl
theorem lk82_0q : LoopOK E82q.P 1000 0 104 (loopAt (bodyOf Proofs.Try.f97) 0) L82_0q := loop_b B82q st82_0q post_Post_L0 e82_0q (fun _ _ _ => rfl) loops0
def as82q : List AS := [.agg [.dat true y3q, .dat true (.sl (.int .i64)), .dat true (.int .i64), .dat true (.sl (.int .i64))], .c (.dat false y7q)]
def rs82q : RS := .tup [(true, [.fro y3q, .fro (.sl (.int .i64)), .fro (.int .i64), .fro (.sl (.int .i64))]), (false, [.int .i64])]
def pk82q : (List K2q) × (List (List Int)) × (List Int) × (List (List Int)) × Int → RL rs82q.cells := fun x => (x.1, x.2.1, x.2.2.1, x.2.2.2.1, x.2.2.2.2, ())
def up82q : RL rs82q.cells → (List K2q) × (List (List Int)) × (List Int) × (List (List Int)) × Int := fun d => (d.1, d.2.1, d.2.2.1, d.2.2.2.1, d.2.2.2.2.1)
def s82q (k : Nat) (d : AD as82q) := post_Post k d.1 d.2.1 d.2.2.1 d.2.2.2.1 d.2.2.2.2.1
def R82q : Nat × Entry := (97, fun k nm args h => entry as82q rs82q (s82q k) pk82q nm args h)
theorem ev82q : EvOK E82q A82q 0 Proofs.Try.f97 as82q rs82q up82q s82q := by intro k d; kernel_rfl
theorem F82q : FnOK Proofs.Try.prog R82q := fn_b B82q ev82q (loops1 lk82_0q)

/-! ### giro/free.next -/
noncomputable def E83q : Env := ⟨Proofs.Try.prog, fun _ => false, sumsOf [R62q, R78q, R82q]⟩
def I83_0q : Spec := ⟨[(3, .c (.lit (.ptr 1001000 0))), (6, .c (.lit (.ptr 1001001 0))), (7, .c (.lit (.ptr 1001002 0))), (15, .c (.lit (.osl 1001003 none))), (16, .c (.int .i64)), (17, .c (.int .i64))], [.box true [.dat true y3q, .dat true (.sl (.int .i64)), .dat true (.int .i64), .dat true (.sl (.int .i64))], .box true [.int .i64, .int .i64, .int .i64, .int .i64, .int .i64, .int .i64, .int .i64], .box true [.lit .nsl, .lit .nsl, .lit .nsl, .lit .nsl], .arr true y7q], []⟩
def X0_83_0q : Spec := ⟨[(3, .c (.lit (.ptr 1001000 0))), (6, .c (.lit (.ptr 1001001 0))), (7, .c (.lit (.ptr 1001002 0)))], [.box true [.dat true y3q, .dat true (.sl (.int .i64)), .dat true (.int .i64), .dat true (.sl (.int .i64))], .box true [.int .i64, .int .i64, .int .i64, .int .i64, .int .i64, .int .i64, .int .i64], .box true [.lit .nsl, .lit .nsl, .lit .nsl, .lit .nsl]], []⟩
def X1_83_0q : Spec := ⟨[(6, .c (.lit (.ptr 1001000 0))), (7, .c (.lit (.ptr 1001001 0))), (8, .c (.bool))], [.box true [.int .i64, .int .i64, .int .i64, .int .i64, .int .i64, .int .i64, .int .i64], .box true [.dat true y3q, .dat true (.sl (.int .i64)), .dat true (.int .i64), .dat true (.sl (.int .i64))]], []⟩
def O83_0q : List (Ex × Spec) := [(.exit 0, X0_83_0q), (.ret, X1_83_0q)]
def c83_0q (f : free_next_L0T) (d : I83_0q.den) : Option free_next_L0X := f d.1.2.2.2.2.1.1 d.1.2.2.2.2.2.1.1 d.2.1.1 d.2.1.2.1 d.2.1.2.2.1 d.2.1.2.2.2.1 d.2.2.1.1 d.2.2.1.2.1 d.2.2.1.2.2.1 d.2.2.1.2.2.2.1 d.2.2.1.2.2.2.2.1 d.2.2.1.2.2.2.2.2.1 d.2.2.1.2.2.2.2.2.2.1 d.2.2.2.2.1
def T83_0q : OutD O83_0q → free_next_L0X
 | .inl d => .inl (d.2.1.1, d.2.1.2.1, d.2.1.2.2.1, d.2.1.2.2.2.1, d.2.2.1.1, d.2.2.1.2.1, d.2.2.1.2.2.1, d.2.2.1.2.2.2.1, d.2.2.1.2.2.2.2.1, d.2.2.1.2.2.2.2.2.1, d.2.2.1.2.2.2.2.2.2.1)
 | .inr d => .inr (d.1.2.2.1.1, d.2.1.1, d.2.1.2.1, d.2.1.2.2.1, d.2.1.2.2.2.1, d.2.1.2.2.2.2.1, d.2.1.2.2.2.2.2.1, d.2.1.2.2.2.2.2.2.1, d.2.2.1.1, d.2.2.1.2.1, d.2.2.1.2.2.1, d.2.2.1.2.2.2.1)
def e83_0q : Elim free_next_L0X := fun base x _ K => match x with
 | .inl x => K (.exit 0) (stOf base X0_83_0q (((), (), (), ()), ((x.1, x.2.1, x.2.2.1, x.2.2.2.1, ()), (x.2.2.2.2.1, x.2.2.2.2.2.1, x.2.2.2.2.2.2.1, x.2.2.2.2.2.2.2.1, x.2.2.2.2.2.2.2.2.1, x.2.2.2.2.2.2.2.2.2.1, x.2.2.2.2.2.2.2.2.2.2, ()), (), ())))
 | .inr x => K .ret (stOf base X1_83_0q (((), (), (x.1, ()), ()), ((x.2.1, x.2.2.1, x.2.2.2.1, x.2.2.2.2.1, x.2.2.2.2.2.1, x.2.2.2.2.2.2.1, x.2.2.2.2.2.2.2.1, ()), (x.2.2.2.2.2.2.2.2.1, x.2.2.2.2.2.2.2.2.2.1, x.2.2.2.2.2.2.2.2.2.2.1, x.2.2.2.2.2.2.2.2.2.2.2, ()), ())))
def L83_0q : LoopSum := ⟨I83_0q, O83_0q, free_next_L0X, fun k d => c83_0q (free_next_L0 k k) d, e83_0q⟩
def A83q : Notes := ⟨[], [(2, L83_0q)]⟩
theorem B83q : EnvB E83q := env_n mixed_orders ⟨F62q, F78q, F82q, trivial⟩
theorem st83_0q : StepOK E83q A83q 0 40 (loopAt (bodyOf Proofs.Try.f72) 0) I83_0q O83_0q T83_0q c83_0q free_next_L0b := by intro k rec d; kernel_rfl
theorem lk83_0q : LoopOK E83q.P 1000 0 40 (loopAt (bodyOf Proofs.Try.f72) 0) L83_0q := loop_b B83q st83_0q free_next_L0 e83_0q (by intro o R K; rcases o with o | o <;> rfl) loops0
def as83q : List AS := [.agg [.dat true y3q, .dat true (.sl (.int .i64)), .dat true (.int .i64), .dat true (.sl (.int .i64))], .c (.dat true y7q), .c (.int .i64)]
def rs83q : RS := .tup [(true, [.int .i64, .int .i64, .int .i64, .int .i64, .int .i64, .int .i64, .int .i64]), (true, [.fro y3q, .fro (.sl (.int .i64)), .fro (.int .i64), .fro (.sl (.int .i64))]), (false, [.bool])]
def pk83q : Int × Int × Int × Int × Int × Int × Int × (List K2q) × (List (List Int)) × (List Int) × (List (List Int)) × Bool → RL rs83q.cells := fun x => (x.1, x.2.1, x.2.2.1, x.2.2.2.1, x.2.2.2.2.1, x.2.2.2.2.2.1, x.2.2.2.2.2.2.1, x.2.2.2.2.2.2.2.1, x.2.2.2.2.2.2.2.2.1, x.2.2.2.2.2.2.2.2.2.1, x.2.2.2.2.2.2.2.2.2.2.1, x.2.2.2.2.2.2.2.2.2.2.2, ())
def up83q : RL rs83q.cells → Int × Int × Int × Int × Int × Int × Int × (List K2q) × (List (List Int)) × (List Int) × (List (List Int)) × Bool := fun d => (d.1, d.2.1, d.2.2.1, d.2.2.2.1, d.2.2.2.2.1, d.2.2.2.2.2.1, d.2.2.2.2.2.2.1, d.2.2.2.2.2.2.2.1, d.2.2.2.2.2.2.2.2.1, d.2.2.2.2.2.2.2.2.2.1, d.2.2.2.2.2.2.2.2.2.2.1, d.2.2.2.2.2.2.2.2.2.2.2.1)
def s83q (k : Nat) (d : AD as83q) := free_next k d.1 d.2.1 d.2.2.1 d.2.2.2.1 d.2.2.2.2.1 d.2.2.2.2.2.1
def R83q : Nat × Entry := (72, fun k nm args h => entry as83q rs83q (s83q k) pk83q nm args h)
theorem ev83q : EvOK E83q A83q 0 Proofs.Try.f72 as83q rs83q up83q s83q := by intro k d; kernel_rfl
theorem F83q : FnOK Proofs.Try.prog R83q := fn_b B83q ev83q (loops1 lk83_0q)

/-! ### giro/row.Find$1 -/
noncomputable def E84q : Env := ⟨Proofs.Try.prog, fun _ => false, sumsOf []⟩
def A84q : Notes := ⟨[], []⟩
theorem B84q : EnvB E84q := env_n mixed_orders trivial
def as84q : List AS := [.agg [.int .i64, .int .i64, .int .i64, .int .i64, .int .i64, .int .i64, .int .i64], .ptr [.int .i64]]
def rs84q : RS := .c (.bool)
def pk84q : Bool → RL rs84q.cells := fun x => (x, ())
def up84q : RL rs84q.cells → Bool := fun d => d.1
def s84q (k : Nat) (d : AD as84q) := row_Find_fn1 k d.1 d.2.1 d.2.2.1 d.2.2.2.1 d.2.2.2.2.1 d.2.2.2.2.2.1 d.2.2.2.2.2.2.1 d.2.2.2.2.2.2.2.1
def R84q : Nat × Entry := (123, fun k nm args h => entry as84q rs84q (s84q k) pk84q nm args h)
theorem ev84q : EvOK E84q A84q 0 Proofs.Try.f123 as84q rs84q up84q s84q := by intro k d; kernel_rfl
theorem F84q : FnOK Proofs.Try.prog R84q := fn_0 B84q ev84q

/-! ### slices.IndexFunc[[]giro/api.Pay,giro/api.Pay] -/
noncomputable def E85q : Env := ⟨Proofs.Try.prog, fun _ => false, sumsOf [R84q]⟩
def I85_0q : Spec := ⟨[(0, .c (.dat false y7q)), (1, .c (.lit (.fn 123 [1001000]))), (7, .c (.int .i64)), (8, .c (.int .i64))], [.robox [.int .i64]], []⟩
def X0_85_0q : Spec := ⟨[], [], []⟩
def X1_85_0q : Spec := ⟨[(4, .c (.int .i64))], [], []⟩
def O85_0q : List (Ex × Spec) := [(.exit 0, X0_85_0q), (.ret, X1_85_0q)]
def c85_0q (f : slices_IndexFunc_Pay__row_Find_fn1_L0T) (d : I85_0q.den) : Option (Unit ⊕ Int) := f d.1.1.1 d.1.2.2.1.1 d.1.2.2.2.1.1 d.2.1.1
def T85_0q : OutD O85_0q → (Unit ⊕ Int)
 | .inl d => .inl ()
 | .inr d => .inr d.1.1.1
def e85_0q : Elim (Unit ⊕ Int) := fun base x _ K => match x with
 | .inl x => K (.exit 0) (stOf base X0_85_0q ((), ()))
 | .inr x => K .ret (stOf base X1_85_0q (((x, ()), ()), ()))
def L85_0q : LoopSum := ⟨I85_0q, O85_0q, (Unit ⊕ Int), fun k d => c85_0q (slices_IndexFunc_Pay__row_Find_fn1_L0 k k) d, e85_0q⟩
def A85q : Notes := ⟨[], [(2, L85_0q)]⟩
theorem B85q : EnvB E85q := env_n mixed_orders ⟨F84q, trivial⟩
theorem st85_0q : StepOK E85q A85q 0 19 (loopAt (bodyOf Proofs.Try.f122) 0) I85_0q O85_0q T85_0q c85_0q slices_IndexFunc_Pay__row_Find_fn1_L0b := by intro k rec d; kernel_rfl
theorem lk85_0q : LoopOK E85q.P 1000 0 19 (loopAt (bodyOf Proofs.Try.f122) 0) L85_0q := loop_b B85q st85_0q slices_IndexFunc_Pay__row_Find_fn1_L0 e85_0q (by intro o R K; rcases o with o | o <;> rfl) loops0
def as85q : List AS := [.c (.dat false y7q), .fn 123 [[.int .i64]]]
def rs85q : RS := .c (.int .i64)
def pk85q : Int → RL rs85q.cells := fun x => (x, ())
def up85q : RL rs85q.cells → Int := fun d => d.1
def s85q (k : Nat) (d : AD as85q) := slices_IndexFunc_Pay__row_Find_fn1 k d.1 d.2.1
def R85q : Nat × Entry := (122, fun k nm args h => entry as85q rs85q (s85q k) pk85q nm args h)
theorem ev85q : EvOK E85q A85q 0 Proofs.Try.f122 as85q rs85q up85q s85q := by intro k d; kernel_rfl
theorem F85q : FnOK Proofs.Try.prog R85q := fn_b B85q ev85q (loops1 lk85_0q)

/-! ### giro/row.Find -/
noncomputable def E86q : Env := ⟨Proofs.Try.prog, fun _ => false, sumsOf [R85q]⟩
def A86q : Notes := ⟨[], []⟩
theorem B86q : EnvB E86q := env_n mixed_orders ⟨F85q, trivial⟩
def as86q : List AS := [.c (.dat false y7q), .c (.int .i64)]
def rs86q : RS := .c (.int .i64)
def pk86q : Int → RL rs86q.cells := fun x => (x, ())
def up86q : RL rs86q.cells → Int := fun d => d.1
def s86q (k : Nat) (d : AD as86q) := row_Find k d.1 d.2.1
def R86q : Nat × Entry := (98, fun k nm args h => entry as86q rs86q (s86q k) pk86q nm args h)
theorem ev86q : EvOK E86q A86q 0 Proofs.Try.f98 as86q rs86q up86q s86q := by intro k d; kernel_rfl
theorem F86q : FnOK Proofs.Try.prog R86q := fn_0 B86q ev86q

/-! ### slices.Clone[[]giro/api.Pay,giro/api.Pay] -/
noncomputable def E87q : Env := ⟨Proofs.Try.prog, fun _ => false, sumsOf []⟩
def A87q : Notes := ⟨[], []⟩
theorem B87q : EnvB E87q := env_n mixed_orders trivial
def as87q : List AS := [.c (.dat false y7q)]
def rs87q : RS := .c (.own y7q)
def pk87q : List K1q → RL rs87q.cells := fun x => (x, ())
def up87q : RL rs87q.cells → List K1q := fun d => d.1
def s87q (k : Nat) (d : AD as87q) := slices_Clone_Pay k d.1
def R87q : Nat × Entry := (100, fun k nm args h => entry as87q rs87q (fun d => slices_Clone_Pay k d.1) pk87q nm args h)
theorem nil87q (k : Nat) : evF E87q A87q k 1000 0 Proofs.Try.f100 [.c .nsl] (boxHp []) (outM rs87q up87q) = slices_Clone_Pay k [] := by kernel_rfl
theorem ev87q (k : Nat) (xs : List K1q) : evF E87q A87q k 1000 0 Proofs.Try.f100 [.c (.nfl false y7q xs)] (boxHp []) (outM rs87q up87q) = slices_Clone_Pay k xs := by kernel_rfl
theorem F87q : FnOK Proofs.Try.prog R87q := fn_nil (t := y7q) (S := slices_Clone_Pay) (unpack := up87q) B87q nil87q ev87q loops0

/-! ### slices.Delete[[]giro/api.Pay,giro/api.Pay] -/
noncomputable def E88q : Env := ⟨Proofs.Try.prog, fun _ => false, sumsOf []⟩
def A88q : Notes := ⟨[], []⟩
theorem B88q : EnvB E88q := env_n mixed_orders trivial
def as88q : List AX := [.c (.own y7q), .c (.p (.int .i64)), .c (.p (.int .i64))]
def rs88q : RS := .c (.own y7q)
def os88q : List (List RC) := []
def pk88q : List K1q → RL (rs88q.cells ++ os88q.flatten) := fun x => (x, ())
def up88q : RL (rs88q.cells ++ os88q.flatten) → List K1q := fun d => d.1
def s88q (k : Nat) (d : XD as88q) := slices_Delete_Pay k d.1 d.2.1 d.2.2.1
def R88q : Nat × Entry := (99, fun k nm args h => entryX as88q rs88q os88q (s88q k) pk88q nm args h)
theorem ev88q : EvOKX E88q A88q 0 Proofs.Try.f99 as88q rs88q os88q up88q s88q := by intro k d; kernel_rfl
theorem F88q : FnOK Proofs.Try.prog R88q := fn_x B88q ev88q loops0

/-! ### giro/row.Drop -/
noncomputable def E89q : Env := ⟨Proofs.Try.prog, fun _ => false, sumsOf [R86q, R87q, R88q]⟩
def A89q : Notes := ⟨[], []⟩
theorem B89q : EnvB E89q := env_n mixed_orders ⟨F86q, F87q, F88q, trivial⟩
def as89q : List AS := [.c (.dat true y7q), .c (.int .i64)]
def rs89q : RS := .tup [(false, [.fro y7q]), (true, [.int .i64, .int .i64, .int .i64, .int .i64, .int .i64, .int .i64, .int .i64]), (false, [.int .i64])]
def pk89q : (List K1q) × Int × Int × Int × Int × Int × Int × Int × Int → RL rs89q.cells := fun x => (x.1, x.2.1, x.2.2.1, x.2.2.2.1, x.2.2.2.2.1, x.2.2.2.2.2.1, x.2.2.2.2.2.2.1, x.2.2.2.2.2.2.2.1, x.2.2.2.2.2.2.2.2, ())
def up89q : RL rs89q.cells → (List K1q) × Int × Int × Int × Int × Int × Int × Int × Int := fun d => (d.1, d.2.1, d.2.2.1, d.2.2.2.1, d.2.2.2.2.1, d.2.2.2.2.2.1, d.2.2.2.2.2.2.1, d.2.2.2.2.2.2.2.1, d.2.2.2.2.2.2.2.2.1)
def s89q (k : Nat) (d : AD as89q) := row_Drop k d.1 d.2.1
def R89q : Nat × Entry := (73, fun k nm args h => entry as89q rs89q (s89q k) pk89q nm args h)
theorem ev89q : EvOK E89q A89q 0 Proofs.Try.f73 as89q rs89q up89q s89q := by intro k d; kernel_rfl
theorem F89q : FnOK Proofs.Try.prog R89q := fn_0 B89q ev89q

/-! ### giro/free.Run -/
noncomputable def E90q : Env := ⟨Proofs.Try.prog, fun _ => false, sumsOf [R83q, R89q]⟩
def I90_0q : Spec := ⟨[(2, .c (.int .i64)), (6, .c (.lit (.ptr 1001000 0))), (7, .c (.dat true y7q)), (8, .c (.lit (.osl 1001001 none)))], [.box true [.dat true y3q, .dat true (.sl (.int .i64)), .dat true (.int .i64), .dat true (.sl (.int .i64))], .arr true y7q], [(8, none, y7q, false)]⟩
def X0_90_0q : Spec := ⟨[(6, .c (.lit (.ptr 1001000 0))), (7, .c (.dat true y7q)), (8, .c (.lit (.osl 1001001 none)))], [.box true [.dat true y3q, .dat true (.sl (.int .i64)), .dat true (.int .i64), .dat true (.sl (.int .i64))], .arr true y7q], []⟩
def O90_0q : List (Ex × Spec) := [(.ret, X0_90_0q)]
def c90_0q (f : free_Run_L0T) (d : I90_0q.den) : Option free_Run_L0X := f d.1.1.1 d.1.2.2.1.1 d.2.1.1 d.2.1.2.1 d.2.1.2.2.1 d.2.1.2.2.2.1 d.2.2.1
def T90_0q : OutD O90_0q → free_Run_L0X := fun d => (d.1.2.1.1, d.2.1.1, d.2.1.2.1, d.2.1.2.2.1, d.2.1.2.2.2.1, d.2.2.1)
def e90_0q : Elim free_Run_L0X := fun base x _ K => K .ret (stOf base X0_90_0q (((), (x.1, ()), (), ()), ((x.2.1, x.2.2.1, x.2.2.2.1, x.2.2.2.2.1, ()), x.2.2.2.2.2, ())))
def L90_0q : LoopSum := ⟨I90_0q, O90_0q, free_Run_L0X, fun k d => c90_0q (free_Run_L0 k k) d, e90_0q⟩
def A90q : Notes := ⟨[], [(2, L90_0q)]⟩
theorem B90q : EnvB E90q := env_n mixed_orders ⟨F83q, F89q, trivial⟩
theorem st90_0q : StepOK E90q A90q 0 40 (loopAt (bodyOf Proofs.Try.f30) 0) I90_0q O90_0q T90_0q c90_0q free_Run_L0b := by intro k rec d; kernel_rfl
theorem lk90_0q : LoopOK E90q.P 1000 0 40 (loopAt (bodyOf Proofs.Try.f30) 0) L90_0q := loop_b B90q st90_0q free_Run_L0 e90_0q (fun _ _ _ => rfl) loops0
def as90q : List AS := [.agg [.dat true y3q, .dat true (.sl (.int .i64)), .dat true (.int .i64), .dat true (.sl (.int .i64))], .c (.dat true y7q), .c (.int .i64)]
def rs90q : RS := .tup [(true, [.fro y3q, .fro (.sl (.int .i64)), .fro (.int .i64), .fro (.sl (.int .i64))]), (false, [.fro y7q]), (false, [.own y7q])]
def pk90q : (List K2q) × (List (List Int)) × (List Int) × (List (List Int)) × (List K1q) × (List K1q) → RL rs90q.cells := fun x => (x.1, x.2.1, x.2.2.1, x.2.2.2.1, x.2.2.2.2.1, x.2.2.2.2.2, ())
def up90q : RL rs90q.cells → (List K2q) × (List (List Int)) × (List Int) × (List (List Int)) × (List K1q) × (List K1q) := fun d => (d.1, d.2.1, d.2.2.1, d.2.2.2.1, d.2.2.2.2.1, d.2.2.2.2.2.1)
def s90q (k : Nat) (d : AD as90q) := free_Run k d.1 d.2.1 d.2.2.1 d.2.2.2.1 d.2.2.2.2.1 d.2.2.2.2.2.1
def R90q : Nat × Entry := (30, fun k nm args h => entry as90q rs90q (s90q k) pk90q nm args h)
theorem ev90q : EvOK E90q A90q 0 Proofs.Try.f30 as90q rs90q up90q s90q := by intro k d; kernel_rfl
theorem F90q : FnOK Proofs.Try.prog R90q := fn_b B90q ev90q (loops1 lk90_0q)

/-! ### giro/giroref11.Same -/
noncomputable def E108q : Env := ⟨Proofs.Try.prog, fun t => [51].any (Nat.beq t), sumsOf []⟩
def I108_0q : Spec := ⟨[(0, .c (.dat false y7q)), (1, .c (.dat false y7q)), (5, .c (.int .i64))], [], []⟩
def X0_108_0q : Spec := ⟨[], [], []⟩
def X1_108_0q : Spec := ⟨[(4, .c (.bool))], [], []⟩
def O108_0q : List (Ex × Spec) := [(.exit 0, X0_108_0q), (.ret, X1_108_0q)]
def c108_0q (f : giroref11_Same_L0T) (d : I108_0q.den) : Option (Unit ⊕ Bool) := f d.1.1.1 d.1.2.1.1 d.1.2.2.1.1
def T108_0q : OutD O108_0q → (Unit ⊕ Bool)
 | .inl d => .inl ()
 | .inr d => .inr d.1.1.1
def e108_0q : Elim (Unit ⊕ Bool) := fun base x _ K => match x with
 | .inl x => K (.exit 0) (stOf base X0_108_0q ((), ()))
 | .inr x => K .ret (stOf base X1_108_0q (((x, ()), ()), ()))
def L108_0q : LoopSum := ⟨I108_0q, O108_0q, (Unit ⊕ Bool), fun k d => c108_0q (giroref11_Same_L0 k k) d, e108_0q⟩
def A108q : Notes := ⟨[], [(4, L108_0q)]⟩
theorem B108q : EnvB E108q := env_b (eqOK_flat (fun t h => eqT_mem (p := fun t => Proofs.Try.prog.keyTypeAt 8 t && !Proofs.Try.prog.eqGuardType Proofs.Try.prog.depth t) (l := [51]) (List.forall_mem_cons.2 ⟨by kernel_rfl, List.forall_mem_nil _⟩) t h)) mixed_orders trivial
theorem st108_0q : StepOK E108q A108q 0 26 (loopAt (bodyOf Proofs.Try.f42) 0) I108_0q O108_0q T108_0q c108_0q giroref11_Same_L0b := by intro k rec d; kernel_rfl
theorem lk108_0q : LoopOK E108q.P 1000 0 26 (loopAt (bodyOf Proofs.Try.f42) 0) L108_0q := loop_b B108q st108_0q giroref11_Same_L0 e108_0q (by intro o R K; rcases o with o | o <;> rfl) loops0
def as108q : List AS := [.c (.dat false y7q), .c (.dat false y7q)]
def rs108q : RS := .c (.bool)
def pk108q : Bool → RL rs108q.cells := fun x => (x, ())
def up108q : RL rs108q.cells → Bool := fun d => d.1
def s108q (k : Nat) (d : AD as108q) := giroref11_Same k d.1 d.2.1
def R108q : Nat × Entry := (42, fun k nm args h => entry as108q rs108q (s108q k) pk108q nm args h)
theorem ev108q : EvOK E108q A108q 0 Proofs.Try.f42 as108q rs108q up108q s108q := by intro k d; kernel_rfl
theorem F108q : FnOK Proofs.Try.prog R108q := fn_b B108q ev108q (loops1 lk108_0q)

/-! ### giro/girolaw18.some -/
noncomputable def E110q : Env := ⟨Proofs.Try.prog, fun _ => false, sumsOf []⟩
def I110_0q : Spec := ⟨[(0, .c (.dat false (.int .i64))), (1, .c (.int .i64)), (4, .c (.lit (.ptr 1001000 0))), (5, .c (.lit (.ptr 1001001 0))), (6, .c (.int .i64))], [.box true [.lit .nsl, .lit .nsl, .lit .nsl, .lit .nsl], .box true [.lit (.osl 1001002 none), .lit (.osl 1001003 none), .lit (.osl 1001004 none), .lit (.osl 1001005 none)], .arr true y3q, .mat, .arr true (.int .i64), .mat], [(5, some 0, y3q, false)]⟩
def X0_110_0q : Spec := ⟨[(1, .c (.int .i64)), (4, .c (.lit (.ptr 1001000 0))), (5, .c (.lit (.ptr 1001001 0)))], [.box true [.lit .nsl, .lit .nsl, .lit .nsl, .lit .nsl], .box true [.lit (.osl 1001002 none), .lit (.osl 1001003 none), .lit (.osl 1001004 none), .lit (.osl 1001005 none)], .arr true y3q, .mat, .arr true (.int .i64), .mat], []⟩
def O110_0q : List (Ex × Spec) := [(.exit 0, X0_110_0q)]
def c110_0q (f : girolaw18_some_L0T) (d : I110_0q.den) : Option girolaw18_some_L0X := f d.1.1.1 d.1.2.1.1 d.1.2.2.2.2.1.1 d.2.2.2.1 d.2.2.2.2.1 d.2.2.2.2.2.1 d.2.2.2.2.2.2.1
def T110_0q : OutD O110_0q → girolaw18_some_L0X := fun d => (d.1.1.1, d.2.2.2.1, d.2.2.2.2.1, d.2.2.2.2.2.1, d.2.2.2.2.2.2.1)
def e110_0q : Elim girolaw18_some_L0X := fun base x _ K => K (.exit 0) (stOf base X0_110_0q (((x.1, ()), (), (), ()), ((), (), x.2.1, x.2.2.1, x.2.2.2.1, x.2.2.2.2, ())))
def L110_0q : LoopSum := ⟨I110_0q, O110_0q, girolaw18_some_L0X, fun k d => c110_0q (girolaw18_some_L0 k k) d, e110_0q⟩
def A110q : Notes := ⟨[11, 16], [(3, L110_0q)]⟩
theorem B110q : EnvB E110q := env_n mixed_orders trivial
theorem st110_0q : StepOK E110q A110q 0 91 (loopAt (bodyOf Proofs.Try.f34) 0) I110_0q O110_0q T110_0q c110_0q girolaw18_some_L0b := by intro k rec d; kernel_rfl
theorem lk110_0q : LoopOK E110q.P 1000 0 91 (loopAt (bodyOf Proofs.Try.f34) 0) L110_0q := loop_b B110q st110_0q girolaw18_some_L0 e110_0q (fun _ _ _ => rfl) loops0
def as110q : List AS := [.c (.dat false (.int .i64)), .c (.int .i64)]
def rs110q : RS := .agg [.own y3q, .mat, .own (.int .i64), .mat]
def pk110q : (List K2q) × (List (List Int)) × (List Int) × (List (List Int)) → RL rs110q.cells := fun x => (x.1, x.2.1, x.2.2.1, x.2.2.2, ())
def up110q : RL rs110q.cells → (List K2q) × (List (List Int)) × (List Int) × (List (List Int)) := fun d => (d.1, d.2.1, d.2.2.1, d.2.2.2.1)
def s110q (k : Nat) (d : AD as110q) := girolaw18_some k d.1 d.2.1
def R110q : Nat × Entry := (34, fun k nm args h => entry as110q rs110q (s110q k) pk110q nm args h)
theorem ev110q : EvOK E110q A110q 0 Proofs.Try.f34 as110q rs110q up110q s110q := by intro k d; kernel_rfl
theorem F110q : FnOK Proofs.Try.prog R110q := fn_b B110q ev110q (loops1 lk110_0q)

/-! ### giro/girolaw18.known -/
noncomputable def E111q : Env := ⟨Proofs.Try.prog, fun _ => false, sumsOf [R110q, R90q, R108q]⟩
def A111q : Notes := ⟨[], []⟩
theorem B111q : EnvB E111q := env_n mixed_orders ⟨F110q, F90q, F108q, trivial⟩
def as111q : List AS := []
def rs111q : RS := .c (.bool)
def pk111q : Bool → RL rs111q.cells := fun x => (x, ())
def up111q : RL rs111q.cells → Bool := fun d => d.1
def s111q (k : Nat) (d : AD as111q) := girolaw18_known k
def R111q : Nat × Entry := (33, fun k nm args h => entry as111q rs111q (s111q k) pk111q nm args h)
theorem ev111q : EvOK E111q A111q 0 Proofs.Try.f33 as111q rs111q up111q s111q := by intro k d; kernel_rfl
theorem F111q : FnOK Proofs.Try.prog R111q := fn_0 B111q ev111q

def R118q : Nat × Entry := (30, fun k nm args h => entryL 10800 as90q rs90q (s90q k) pk90q nm args h)
theorem F118q : FnOK Proofs.Try.prog R118q := fn_L (nm0 := 10800) B90q ev90q (loops1 lk90_0q)

/-! ### giro/girolaw18.FreeKnown -/
noncomputable def E_girolaw18_FreeKnown : Env := ⟨Proofs.Try.prog, fun _ => false, sumsOf [R118q, R110q, R90q, R111q, R108q]⟩
def A_girolaw18_FreeKnown : Notes := ⟨[], []⟩
theorem B_girolaw18_FreeKnown : EnvB E_girolaw18_FreeKnown := env_n mixed_orders ⟨F118q, F110q, F90q, F111q, F108q, trivial⟩
def as_girolaw18_FreeKnown : List AS := [.c (.int .i64)]
def rs_girolaw18_FreeKnown : RS := .c (.bool)
def pk_girolaw18_FreeKnown : Bool → RL rs_girolaw18_FreeKnown.cells := fun x => (x, ())
def up_girolaw18_FreeKnown : RL rs_girolaw18_FreeKnown.cells → Bool := fun d => d.1
def s_girolaw18_FreeKnown (k : Nat) (d : AD as_girolaw18_FreeKnown) := girolaw18_FreeKnown k d.1
def R_girolaw18_FreeKnown : Nat × Entry := (8, fun k nm args h => entry as_girolaw18_FreeKnown rs_girolaw18_FreeKnown (s_girolaw18_FreeKnown k) pk_girolaw18_FreeKnown nm args h)
theorem girolaw18_FreeKnown_ev : EvOK E_girolaw18_FreeKnown A_girolaw18_FreeKnown 0 Proofs.Try.f8 as_girolaw18_FreeKnown rs_girolaw18_FreeKnown up_girolaw18_FreeKnown s_girolaw18_FreeKnown := by intro k d; kernel_rfl
theorem F_girolaw18_FreeKnown : FnOK Proofs.Try.prog R_girolaw18_FreeKnown := fn_0 B_girolaw18_FreeKnown girolaw18_FreeKnown_ev

end Go.Ab.Gi
