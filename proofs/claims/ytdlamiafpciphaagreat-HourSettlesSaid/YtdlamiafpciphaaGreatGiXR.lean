/- The shallow functions are what the program does, printed (abprint.py). -/
import Derived.Test.YtdlamiafpciphaaGreatGiXRa
set_option linter.unusedVariables false
set_option maxRecDepth 100000
namespace Go.Ab.Gi

/-! ### giro/giroref3.Of -/
noncomputable def E132q : Env := ⟨Proofs.Tryz.prog, fun _ => false, sumsOf []⟩
def I132_0q : Spec := ⟨[(1, .c (.dat false (.int .i64))), (4, .c (.lit (.ptr 1001000 0))), (5, .c (.lit (.ptr 1001001 0))), (6, .c (.int .i64))], [.box true [.int .i64, .int .i64, .int .i64, .int .i64, .int .i64, .int .i64, .int .i64], .box true [.int .i64, .int .i64, .int .i64, .int .i64, .int .i64, .int .i64, .int .i64]], []⟩
def X0_132_0q : Spec := ⟨[(4, .c (.lit (.ptr 1001000 0))), (5, .c (.lit (.ptr 1001001 0)))], [.box true [.int .i64, .int .i64, .int .i64, .int .i64, .int .i64, .int .i64, .int .i64], .box true [.int .i64, .int .i64, .int .i64, .int .i64, .int .i64, .int .i64, .int .i64]], []⟩
def O132_0q : List (Ex × Spec) := [(.exit 0, X0_132_0q)]
def c132_0q (f : giroref3_Of_L0T) (d : I132_0q.den) : Option giroref3_Of_L0X := f d.1.1.1 d.1.2.2.2.1.1 d.2.1.1 d.2.1.2.1 d.2.1.2.2.1 d.2.1.2.2.2.1 d.2.1.2.2.2.2.1 d.2.1.2.2.2.2.2.1 d.2.1.2.2.2.2.2.2.1 d.2.2.1.1 d.2.2.1.2.1 d.2.2.1.2.2.1 d.2.2.1.2.2.2.1 d.2.2.1.2.2.2.2.1 d.2.2.1.2.2.2.2.2.1 d.2.2.1.2.2.2.2.2.2.1
def T132_0q : OutD O132_0q → giroref3_Of_L0X := fun d => (d.2.1.1, d.2.1.2.1, d.2.1.2.2.1, d.2.1.2.2.2.1, d.2.1.2.2.2.2.1, d.2.1.2.2.2.2.2.1, d.2.1.2.2.2.2.2.2.1, d.2.2.1.1, d.2.2.1.2.1, d.2.2.1.2.2.1, d.2.2.1.2.2.2.1, d.2.2.1.2.2.2.2.1, d.2.2.1.2.2.2.2.2.1, d.2.2.1.2.2.2.2.2.2.1)
def e132_0q : Elim giroref3_Of_L0X := fun base x _ K => K (.exit 0) (stOf base X0_132_0q (((), (), ()), ((x.1, x.2.1, x.2.2.1, x.2.2.2.1, x.2.2.2.2.1, x.2.2.2.2.2.1, x.2.2.2.2.2.2.1, ()), (x.2.2.2.2.2.2.2.1, x.2.2.2.2.2.2.2.2.1, x.2.2.2.2.2.2.2.2.2.1, x.2.2.2.2.2.2.2.2.2.2.1, x.2.2.2.2.2.2.2.2.2.2.2.1, x.2.2.2.2.2.2.2.2.2.2.2.2.1, x.2.2.2.2.2.2.2.2.2.2.2.2.2, ()), ())))
def L132_0q : LoopSum := ⟨I132_0q, O132_0q, giroref3_Of_L0X, fun k d => c132_0q (giroref3_Of_L0 k k) d, e132_0q⟩
def A132q : Notes := ⟨[], [(3, L132_0q)]⟩
theorem B132q : EnvB E132q := env_n mixed_orders trivial
theorem st132_0q : StepOK E132q A132q 0 27 (loopAt (bodyOf Proofs.Tryz.f34) 0) I132_0q O132_0q T132_0q c132_0q giroref3_Of_L0b := by intro k rec d; kernel_rfl
theorem lk132_0q : LoopOK E132q.P 1000 0 27 (loopAt (bodyOf Proofs.Tryz.f34) 0) L132_0q := loop_b B132q st132_0q giroref3_Of_L0 e132_0q (fun _ _ _ => rfl) loops0
def as132q : List AS := [.c (.int .i64), .c (.dat false (.int .i64))]
def rs132q : RS := .agg [.int .i64, .int .i64, .int .i64, .int .i64, .int .i64, .int .i64, .int .i64]
def pk132q : Int × Int × Int × Int × Int × Int × Int → RL rs132q.cells := fun x => (x.1, x.2.1, x.2.2.1, x.2.2.2.1, x.2.2.2.2.1, x.2.2.2.2.2.1, x.2.2.2.2.2.2, ())
def up132q : RL rs132q.cells → Int × Int × Int × Int × Int × Int × Int := fun d => (d.1, d.2.1, d.2.2.1, d.2.2.2.1, d.2.2.2.2.1, d.2.2.2.2.2.1, d.2.2.2.2.2.2.1)
def s132q (k : Nat) (d : AD as132q) := giroref3_Of k d.1 d.2.1
def R132q : Nat × Entry := (34, fun k nm args h => entry as132q rs132q (s132q k) pk132q nm args h)
theorem ev132q : EvOK E132q A132q 0 Proofs.Tryz.f34 as132q rs132q up132q s132q := by intro k d; kernel_rfl
theorem F132q : FnOK Proofs.Tryz.prog R132q := fn_b B132q ev132q (loops1 lk132_0q)

/-! ### giro/giroref22.Told -/
noncomputable def E133q : Env := ⟨Proofs.Tryz.prog, fun _ => false, sumsOf [R132q]⟩
def I133_0q : Spec := ⟨[(0, .c (.dat false y8q)), (3, .c (.lit (.osl 1001000 none))), (4, .c (.int .i64))], [.arr true y9q], [(3, none, y9q, false)]⟩
def X0_133_0q : Spec := ⟨[(3, .c (.lit (.osl 1001000 none)))], [.arr true y9q], []⟩
def O133_0q : List (Ex × Spec) := [(.exit 0, X0_133_0q)]
def c133_0q (f : giroref22_Told_L0T) (d : I133_0q.den) : Option giroref22_Told_L0X := f d.1.1.1 d.1.2.2.1.1 d.2.1
def T133_0q : OutD O133_0q → giroref22_Told_L0X := fun d => d.2.1
def e133_0q : Elim giroref22_Told_L0X := fun base x _ K => K (.exit 0) (stOf base X0_133_0q (((), ()), (x, ())))
def L133_0q : LoopSum := ⟨I133_0q, O133_0q, giroref22_Told_L0X, fun k d => c133_0q (giroref22_Told_L0 k k) d, e133_0q⟩
def A133q : Notes := ⟨[], [(3, L133_0q)]⟩
theorem B133q : EnvB E133q := env_n mixed_orders ⟨F132q, trivial⟩
theorem st133_0q : StepOK E133q A133q 0 39 (loopAt (bodyOf Proofs.Tryz.f28) 0) I133_0q O133_0q T133_0q c133_0q giroref22_Told_L0b := by intro k rec d; kernel_rfl
theorem lk133_0q : LoopOK E133q.P 1000 0 39 (loopAt (bodyOf Proofs.Tryz.f28) 0) L133_0q := loop_b B133q st133_0q giroref22_Told_L0 e133_0q (fun _ _ _ => rfl) loops0
def as133q : List AS := [.c (.dat false y8q)]
def rs133q : RS := .c (.own y9q)
def pk133q : List K1q → RL rs133q.cells := fun x => (x, ())
def up133q : RL rs133q.cells → List K1q := fun d => d.1
def s133q (k : Nat) (d : AD as133q) := giroref22_Told k d.1
def R133q : Nat × Entry := (28, fun k nm args h => entry as133q rs133q (s133q k) pk133q nm args h)
theorem ev133q : EvOK E133q A133q 0 Proofs.Tryz.f28 as133q rs133q up133q s133q := by intro k d; kernel_rfl
theorem F133q : FnOK Proofs.Tryz.prog R133q := fn_b B133q ev133q (loops1 lk133_0q)

/-! ### giro/giroref22.Settle -/
noncomputable def E134q : Env := ⟨Proofs.Tryz.prog, fun _ => false, sumsOf [R117q, R133q]⟩
def A134q : Notes := ⟨[], []⟩
theorem B134q : EnvB E134q := env_n mixed_orders ⟨F117q, F133q, trivial⟩
def as134q : List AS := [.agg [.int .i64, .dat true y4q, .dat true (.sl (.int .i64)), .dat true (.int .i64), .dat true (.sl (.int .i64)), .dat true (.int .i64), .dat true (.sl (.int .i64)), .dat true y8q, .dat true (.int .i64), .int .i64, .bool], .c (.bool)]
def rs134q : RS := .tup [(true, [.int .i64, .fro y4q, .fro (.sl (.int .i64)), .fro (.int .i64), .fro (.sl (.int .i64)), .fro (.int .i64), .fro (.sl (.int .i64)), .fro y8q, .fro (.int .i64), .int .i64, .bool]), (false, [.own y9q])]
def pk134q : Int × (List K3q) × (List (List Int)) × (List Int) × (List (List Int)) × (List Int) × (List (List Int)) × (List K2q) × (List Int) × Int × Bool × (List K1q) → RL rs134q.cells := fun x => (x.1, x.2.1, x.2.2.1, x.2.2.2.1, x.2.2.2.2.1, x.2.2.2.2.2.1, x.2.2.2.2.2.2.1, x.2.2.2.2.2.2.2.1, x.2.2.2.2.2.2.2.2.1, x.2.2.2.2.2.2.2.2.2.1, x.2.2.2.2.2.2.2.2.2.2.1, x.2.2.2.2.2.2.2.2.2.2.2, ())
def up134q : RL rs134q.cells → Int × (List K3q) × (List (List Int)) × (List Int) × (List (List Int)) × (List Int) × (List (List Int)) × (List K2q) × (List Int) × Int × Bool × (List K1q) := fun d => (d.1, d.2.1, d.2.2.1, d.2.2.2.1, d.2.2.2.2.1, d.2.2.2.2.2.1, d.2.2.2.2.2.2.1, d.2.2.2.2.2.2.2.1, d.2.2.2.2.2.2.2.2.1, d.2.2.2.2.2.2.2.2.2.1, d.2.2.2.2.2.2.2.2.2.2.1, d.2.2.2.2.2.2.2.2.2.2.2.1)
def s134q (k : Nat) (d : AD as134q) := giroref22_Settle k d.1 d.2.1 d.2.2.1 d.2.2.2.1 d.2.2.2.2.1 d.2.2.2.2.2.1 d.2.2.2.2.2.2.1 d.2.2.2.2.2.2.2.1 d.2.2.2.2.2.2.2.2.1 d.2.2.2.2.2.2.2.2.2.1 d.2.2.2.2.2.2.2.2.2.2.1 d.2.2.2.2.2.2.2.2.2.2.2.1
def R134q : Nat × Entry := (13, fun k nm args h => entry as134q rs134q (s134q k) pk134q nm args h)
theorem ev134q : EvOK E134q A134q 0 Proofs.Tryz.f13 as134q rs134q up134q s134q := by intro k d; kernel_rfl
theorem F134q : FnOK Proofs.Tryz.prog R134q := fn_0 B134q ev134q

/-! ### giro/giroref3.Outs -/
noncomputable def E135q : Env := ⟨Proofs.Tryz.prog, fun t => [68].any (Nat.beq t), sumsOf []⟩
def I135_0q : Spec := ⟨[(0, .c (.dat false y9q)), (1, .c (.dat false y9q)), (5, .c (.int .i64))], [], []⟩
def X0_135_0q : Spec := ⟨[], [], []⟩
def X1_135_0q : Spec := ⟨[(4, .c (.bool))], [], []⟩
def O135_0q : List (Ex × Spec) := [(.exit 0, X0_135_0q), (.ret, X1_135_0q)]
def c135_0q (f : giroref3_Outs_L0T) (d : I135_0q.den) : Option (Unit ⊕ Bool) := f d.1.1.1 d.1.2.1.1 d.1.2.2.1.1
def T135_0q : OutD O135_0q → (Unit ⊕ Bool)
 | .inl d => .inl ()
 | .inr d => .inr d.1.1.1
def e135_0q : Elim (Unit ⊕ Bool) := fun base x _ K => match x with
 | .inl x => K (.exit 0) (stOf base X0_135_0q ((), ()))
 | .inr x => K .ret (stOf base X1_135_0q (((x, ()), ()), ()))
def L135_0q : LoopSum := ⟨I135_0q, O135_0q, (Unit ⊕ Bool), fun k d => c135_0q (giroref3_Outs_L0 k k) d, e135_0q⟩
def A135q : Notes := ⟨[], [(4, L135_0q)]⟩
theorem B135q : EnvB E135q := env_b (eqOK_flat (fun t h => eqT_mem (p := fun t => Proofs.Tryz.prog.keyTypeAt 8 t && !Proofs.Tryz.prog.eqGuardType Proofs.Tryz.prog.depth t) (l := [68]) (List.forall_mem_cons.2 ⟨by kernel_rfl, List.forall_mem_nil _⟩) t h)) mixed_orders trivial
theorem st135_0q : StepOK E135q A135q 0 26 (loopAt (bodyOf Proofs.Tryz.f31) 0) I135_0q O135_0q T135_0q c135_0q giroref3_Outs_L0b := by intro k rec d; kernel_rfl
theorem lk135_0q : LoopOK E135q.P 1000 0 26 (loopAt (bodyOf Proofs.Tryz.f31) 0) L135_0q := loop_b B135q st135_0q giroref3_Outs_L0 e135_0q (by intro o R K; rcases o with o | o <;> rfl) loops0
def as135q : List AS := [.c (.dat false y9q), .c (.dat false y9q)]
def rs135q : RS := .c (.bool)
def pk135q : Bool → RL rs135q.cells := fun x => (x, ())
def up135q : RL rs135q.cells → Bool := fun d => d.1
def s135q (k : Nat) (d : AD as135q) := giroref3_Outs k d.1 d.2.1
def R135q : Nat × Entry := (31, fun k nm args h => entry as135q rs135q (s135q k) pk135q nm args h)
theorem ev135q : EvOK E135q A135q 0 Proofs.Tryz.f31 as135q rs135q up135q s135q := by intro k d; kernel_rfl
theorem F135q : FnOK Proofs.Tryz.prog R135q := fn_b B135q ev135q (loops1 lk135_0q)

/-! ### giro/girolaw22.same -/
noncomputable def E136q : Env := ⟨Proofs.Tryz.prog, fun _ => false, sumsOf [R120q, R121q, R135q]⟩
def A136q : Notes := ⟨[], []⟩
theorem B136q : EnvB E136q := env_n mixed_orders ⟨F120q, F121q, F135q, trivial⟩
def as136q : List AS := [.agg [.int .i64, .dat false y4q, .dat false (.sl (.int .i64)), .dat false (.int .i64), .dat false (.sl (.int .i64)), .dat false (.int .i64), .dat false (.sl (.int .i64)), .dat false y8q, .dat false (.int .i64), .int .i64, .bool], .c (.dat false y9q), .agg [.int .i64, .dat false y4q, .dat false (.sl (.int .i64)), .dat false (.int .i64), .dat false (.sl (.int .i64)), .dat false (.int .i64), .dat false (.sl (.int .i64)), .dat false y8q, .dat false (.int .i64), .int .i64, .bool], .c (.dat false y9q)]
def rs136q : RS := .c (.bool)
def pk136q : Bool → RL rs136q.cells := fun x => (x, ())
def up136q : RL rs136q.cells → Bool := fun d => d.1
def s136q (k : Nat) (d : AD as136q) := girolaw22_same k d.1 d.2.1 d.2.2.1 d.2.2.2.1 d.2.2.2.2.1 d.2.2.2.2.2.1 d.2.2.2.2.2.2.1 d.2.2.2.2.2.2.2.1 d.2.2.2.2.2.2.2.2.1 d.2.2.2.2.2.2.2.2.2.1 d.2.2.2.2.2.2.2.2.2.2.1 d.2.2.2.2.2.2.2.2.2.2.2.1 d.2.2.2.2.2.2.2.2.2.2.2.2.1 d.2.2.2.2.2.2.2.2.2.2.2.2.2.1 d.2.2.2.2.2.2.2.2.2.2.2.2.2.2.1 d.2.2.2.2.2.2.2.2.2.2.2.2.2.2.2.1 d.2.2.2.2.2.2.2.2.2.2.2.2.2.2.2.2.1 d.2.2.2.2.2.2.2.2.2.2.2.2.2.2.2.2.2.1 d.2.2.2.2.2.2.2.2.2.2.2.2.2.2.2.2.2.2.1 d.2.2.2.2.2.2.2.2.2.2.2.2.2.2.2.2.2.2.2.1 d.2.2.2.2.2.2.2.2.2.2.2.2.2.2.2.2.2.2.2.2.1 d.2.2.2.2.2.2.2.2.2.2.2.2.2.2.2.2.2.2.2.2.2.1 d.2.2.2.2.2.2.2.2.2.2.2.2.2.2.2.2.2.2.2.2.2.2.1 d.2.2.2.2.2.2.2.2.2.2.2.2.2.2.2.2.2.2.2.2.2.2.2.1
def R136q : Nat × Entry := (15, fun k nm args h => entry as136q rs136q (s136q k) pk136q nm args h)
theorem ev136q : EvOK E136q A136q 0 Proofs.Tryz.f15 as136q rs136q up136q s136q := by intro k d; kernel_rfl
theorem F136q : FnOK Proofs.Tryz.prog R136q := fn_0 B136q ev136q

/-! ### giro/girolaw22.rules -/
noncomputable def E137q : Env := ⟨Proofs.Tryz.prog, fun _ => false, sumsOf []⟩
def A137q : Notes := ⟨[], []⟩
theorem B137q : EnvB E137q := env_n mixed_orders trivial
def as137q : List AS := [.c (.int .i64)]
def rs137q : RS := .agg [.int .i64, .own y0q, .int .i64, .int .i64, .int .i64]
def pk137q : Int × (List (Int × Int)) × Int × Int × Int → RL rs137q.cells := fun x => (x.1, x.2.1, x.2.2.1, x.2.2.2.1, x.2.2.2.2, ())
def up137q : RL rs137q.cells → Int × (List (Int × Int)) × Int × Int × Int := fun d => (d.1, d.2.1, d.2.2.1, d.2.2.2.1, d.2.2.2.2.1)
def s137q (k : Nat) (d : AD as137q) := girolaw22_rules k d.1
def R137q : Nat × Entry := (33, fun k nm args h => entry as137q rs137q (s137q k) pk137q nm args h)
theorem ev137q : EvOK E137q A137q 0 Proofs.Tryz.f33 as137q rs137q up137q s137q := by intro k d; kernel_rfl
theorem F137q : FnOK Proofs.Tryz.prog R137q := fn_0 B137q ev137q

/-! ### giro/day.Closes -/
noncomputable def E138q : Env := ⟨Proofs.Tryz.prog, fun _ => false, sumsOf []⟩
def A138q : Notes := ⟨[], []⟩
theorem B138q : EnvB E138q := env_n mixed_orders trivial
def as138q : List AS := [.agg [.int .i64, .dat false y0q, .int .i64, .int .i64, .int .i64], .c (.int .i64)]
def rs138q : RS := .c (.bool)
def pk138q : Bool → RL rs138q.cells := fun x => (x, ())
def up138q : RL rs138q.cells → Bool := fun d => d.1
def s138q (k : Nat) (d : AD as138q) := day_Closes k d.1 d.2.1 d.2.2.1 d.2.2.2.1 d.2.2.2.2.1 d.2.2.2.2.2.1
def R138q : Nat × Entry := (57, fun k nm args h => entry as138q rs138q (s138q k) pk138q nm args h)
theorem ev138q : EvOK E138q A138q 0 Proofs.Tryz.f57 as138q rs138q up138q s138q := by intro k d; kernel_rfl
theorem F138q : FnOK Proofs.Tryz.prog R138q := fn_0 B138q ev138q

/-! ### giro/hour.ends -/
noncomputable def E139q : Env := ⟨Proofs.Tryz.prog, fun _ => false, sumsOf [R129q]⟩
def I139_0q : Spec := ⟨[(1, .c (.lit (.ptr 1001000 0))), (2, .c (.lit (.ptr 1001001 0))), (4, .c (.lit (.osl 1001002 none))), (10, .c (.dat true y8q)), (11, .c (.int .i64)), (12, .c (.int .i64))], [.box true [.int .i64, .dat true y4q, .dat true (.sl (.int .i64)), .dat true (.int .i64), .dat true (.sl (.int .i64)), .dat true (.int .i64), .dat true (.sl (.int .i64)), .dat true y8q, .dat true (.int .i64), .int .i64, .bool], .box true [.int .i64, .lit .nsl, .lit .nsl, .lit .nsl, .lit .nsl, .lit .nsl, .lit .nsl, .lit .nsl, .lit .nsl, .int .i64, .bool], .arr true y9q], [(4, none, y9q, false)]⟩
def X0_139_0q : Spec := ⟨[(1, .c (.lit (.ptr 1001000 0))), (2, .c (.lit (.ptr 1001001 0))), (4, .c (.lit (.osl 1001002 none)))], [.box true [.int .i64, .dat true y4q, .dat true (.sl (.int .i64)), .dat true (.int .i64), .dat true (.sl (.int .i64)), .dat true (.int .i64), .dat true (.sl (.int .i64)), .dat true y8q, .dat true (.int .i64), .int .i64, .bool], .box true [.int .i64, .lit .nsl, .lit .nsl, .lit .nsl, .lit .nsl, .lit .nsl, .lit .nsl, .lit .nsl, .lit .nsl, .int .i64, .bool], .arr true y9q], []⟩
def O139_0q : List (Ex × Spec) := [(.exit 0, X0_139_0q)]
def c139_0q (f : hour_ends_L0T) (d : I139_0q.den) : Option hour_ends_L0X := f d.1.2.2.2.1.1 d.1.2.2.2.2.1.1 d.1.2.2.2.2.2.1.1 d.2.1.1 d.2.1.2.1 d.2.1.2.2.1 d.2.1.2.2.2.1 d.2.1.2.2.2.2.1 d.2.1.2.2.2.2.2.1 d.2.1.2.2.2.2.2.2.1 d.2.1.2.2.2.2.2.2.2.1 d.2.1.2.2.2.2.2.2.2.2.1 d.2.1.2.2.2.2.2.2.2.2.2.1 d.2.1.2.2.2.2.2.2.2.2.2.2.1 d.2.2.1.1 d.2.2.1.2.1 d.2.2.1.2.2.1 d.2.2.2.1
def T139_0q : OutD O139_0q → hour_ends_L0X := fun d => (d.2.1.1, d.2.1.2.1, d.2.1.2.2.1, d.2.1.2.2.2.1, d.2.1.2.2.2.2.1, d.2.1.2.2.2.2.2.1, d.2.1.2.2.2.2.2.2.1, d.2.1.2.2.2.2.2.2.2.1, d.2.1.2.2.2.2.2.2.2.2.1, d.2.1.2.2.2.2.2.2.2.2.2.1, d.2.1.2.2.2.2.2.2.2.2.2.2.1, d.2.2.1.1, d.2.2.1.2.1, d.2.2.1.2.2.1, d.2.2.2.1)
def e139_0q : Elim hour_ends_L0X := fun base x _ K => K (.exit 0) (stOf base X0_139_0q (((), (), (), ()), ((x.1, x.2.1, x.2.2.1, x.2.2.2.1, x.2.2.2.2.1, x.2.2.2.2.2.1, x.2.2.2.2.2.2.1, x.2.2.2.2.2.2.2.1, x.2.2.2.2.2.2.2.2.1, x.2.2.2.2.2.2.2.2.2.1, x.2.2.2.2.2.2.2.2.2.2.1, ()), (x.2.2.2.2.2.2.2.2.2.2.2.1, x.2.2.2.2.2.2.2.2.2.2.2.2.1, x.2.2.2.2.2.2.2.2.2.2.2.2.2.1, ()), x.2.2.2.2.2.2.2.2.2.2.2.2.2.2, ())))
def L139_0q : LoopSum := ⟨I139_0q, O139_0q, hour_ends_L0X, fun k d => c139_0q (hour_ends_L0 k k) d, e139_0q⟩
def I139_1q : Spec := ⟨[(1, .c (.lit (.ptr 1001000 0))), (2, .c (.lit (.ptr 1001001 0))), (4, .c (.lit (.osl 1001002 none))), (28, .c (.dat true y4q)), (29, .c (.int .i64)), (30, .c (.int .i64))], [.box true [.int .i64, .dat true y4q, .dat true (.sl (.int .i64)), .dat true (.int .i64), .dat true (.sl (.int .i64)), .dat true (.int .i64), .dat true (.sl (.int .i64)), .dat true y8q, .dat true (.int .i64), .int .i64, .bool], .box true [.int .i64, .lit .nsl, .lit .nsl, .lit .nsl, .lit .nsl, .lit .nsl, .lit .nsl, .lit .nsl, .lit .nsl, .int .i64, .bool], .arr true y9q], []⟩
def X0_139_1q : Spec := ⟨[(1, .c (.lit (.ptr 1001000 0))), (2, .c (.lit (.ptr 1001001 0))), (4, .c (.lit (.osl 1001002 none)))], [.box true [.int .i64, .dat true y4q, .dat true (.sl (.int .i64)), .dat true (.int .i64), .dat true (.sl (.int .i64)), .dat true (.int .i64), .dat true (.sl (.int .i64)), .dat true y8q, .dat true (.int .i64), .int .i64, .bool], .box true [.int .i64, .lit .nsl, .lit .nsl, .lit .nsl, .lit .nsl, .lit .nsl, .lit .nsl, .lit .nsl, .lit .nsl, .int .i64, .bool], .arr true y9q], []⟩
def O139_1q : List (Ex × Spec) := [(.exit 2, X0_139_1q)]
def c139_1q (f : hour_ends_L1T) (d : I139_1q.den) : Option hour_ends_L1X := f d.1.2.2.2.1.1 d.1.2.2.2.2.1.1 d.1.2.2.2.2.2.1.1 d.2.1.1 d.2.1.2.1 d.2.1.2.2.1 d.2.1.2.2.2.1 d.2.1.2.2.2.2.1 d.2.1.2.2.2.2.2.1 d.2.1.2.2.2.2.2.2.1 d.2.1.2.2.2.2.2.2.2.1 d.2.1.2.2.2.2.2.2.2.2.1 d.2.1.2.2.2.2.2.2.2.2.2.1 d.2.1.2.2.2.2.2.2.2.2.2.2.1 d.2.2.1.1 d.2.2.1.2.1 d.2.2.1.2.2.1 d.2.2.2.1
def T139_1q : OutD O139_1q → hour_ends_L1X := fun d => (d.2.1.1, d.2.1.2.1, d.2.1.2.2.1, d.2.1.2.2.2.1, d.2.1.2.2.2.2.1, d.2.1.2.2.2.2.2.1, d.2.1.2.2.2.2.2.2.1, d.2.1.2.2.2.2.2.2.2.1, d.2.1.2.2.2.2.2.2.2.2.1, d.2.1.2.2.2.2.2.2.2.2.2.1, d.2.1.2.2.2.2.2.2.2.2.2.2.1, d.2.2.1.1, d.2.2.1.2.1, d.2.2.1.2.2.1, d.2.2.2.1)
def e139_1q : Elim hour_ends_L1X := fun base x _ K => K (.exit 2) (stOf base X0_139_1q (((), (), (), ()), ((x.1, x.2.1, x.2.2.1, x.2.2.2.1, x.2.2.2.2.1, x.2.2.2.2.2.1, x.2.2.2.2.2.2.1, x.2.2.2.2.2.2.2.1, x.2.2.2.2.2.2.2.2.1, x.2.2.2.2.2.2.2.2.2.1, x.2.2.2.2.2.2.2.2.2.2.1, ()), (x.2.2.2.2.2.2.2.2.2.2.2.1, x.2.2.2.2.2.2.2.2.2.2.2.2.1, x.2.2.2.2.2.2.2.2.2.2.2.2.2.1, ()), x.2.2.2.2.2.2.2.2.2.2.2.2.2.2, ())))
def L139_1q : LoopSum := ⟨I139_1q, O139_1q, hour_ends_L1X, fun k d => c139_1q (hour_ends_L1 k k) d, e139_1q⟩
def A139q : Notes := ⟨[], [(3, L139_0q), (8, L139_1q)]⟩
theorem B139q : EnvB E139q := env_n mixed_orders ⟨F129q, trivial⟩
theorem st139_0q : StepOK E139q A139q 0 48 (loopAt (bodyOf Proofs.Tryz.f58) 0) I139_0q O139_0q T139_0q c139_0q hour_ends_L0b := by intro k rec d; kernel_rfl
theorem lk139_0q : LoopOK E139q.P 1000 0 48 (loopAt (bodyOf Proofs.Tryz.f58) 0) L139_0q := loop_b B139q st139_0q hour_ends_L0 e139_0q (fun _ _ _ => rfl) loops0
theorem st139_1q : StepOK E139q A139q 0 48 (loopAt (bodyOf Proofs.Tryz.f58) 1) I139_1q O139_1q T139_1q c139_1q hour_ends_L1b := by intro k rec d; kernel_rfl
theorem lk139_1q : LoopOK E139q.P 1000 0 48 (loopAt (bodyOf Proofs.Tryz.f58) 1) L139_1q := loop_b B139q st139_1q hour_ends_L1 e139_1q (fun _ _ _ => rfl) loops0
def as139q : List AS := [.agg [.int .i64, .dat true y4q, .dat true (.sl (.int .i64)), .dat true (.int .i64), .dat true (.sl (.int .i64)), .dat true (.int .i64), .dat true (.sl (.int .i64)), .dat true y8q, .dat true (.int .i64), .int .i64, .bool]]
def rs139q : RS := .tup [(true, [.int .i64, .fro y4q, .fro (.sl (.int .i64)), .fro (.int .i64), .fro (.sl (.int .i64)), .fro (.int .i64), .fro (.sl (.int .i64)), .own y8q, .fro (.int .i64), .int .i64, .bool]), (false, [.own y9q])]
def pk139q : Int × (List K3q) × (List (List Int)) × (List Int) × (List (List Int)) × (List Int) × (List (List Int)) × (List K2q) × (List Int) × Int × Bool × (List K1q) → RL rs139q.cells := fun x => (x.1, x.2.1, x.2.2.1, x.2.2.2.1, x.2.2.2.2.1, x.2.2.2.2.2.1, x.2.2.2.2.2.2.1, x.2.2.2.2.2.2.2.1, x.2.2.2.2.2.2.2.2.1, x.2.2.2.2.2.2.2.2.2.1, x.2.2.2.2.2.2.2.2.2.2.1, x.2.2.2.2.2.2.2.2.2.2.2, ())
def up139q : RL rs139q.cells → Int × (List K3q) × (List (List Int)) × (List Int) × (List (List Int)) × (List Int) × (List (List Int)) × (List K2q) × (List Int) × Int × Bool × (List K1q) := fun d => (d.1, d.2.1, d.2.2.1, d.2.2.2.1, d.2.2.2.2.1, d.2.2.2.2.2.1, d.2.2.2.2.2.2.1, d.2.2.2.2.2.2.2.1, d.2.2.2.2.2.2.2.2.1, d.2.2.2.2.2.2.2.2.2.1, d.2.2.2.2.2.2.2.2.2.2.1, d.2.2.2.2.2.2.2.2.2.2.2.1)
def s139q (k : Nat) (d : AD as139q) := hour_ends k d.1 d.2.1 d.2.2.1 d.2.2.2.1 d.2.2.2.2.1 d.2.2.2.2.2.1 d.2.2.2.2.2.2.1 d.2.2.2.2.2.2.2.1 d.2.2.2.2.2.2.2.2.1 d.2.2.2.2.2.2.2.2.2.1 d.2.2.2.2.2.2.2.2.2.2.1
def R139q : Nat × Entry := (58, fun k nm args h => entry as139q rs139q (s139q k) pk139q nm args h)
theorem ev139q : EvOK E139q A139q 0 Proofs.Tryz.f58 as139q rs139q up139q s139q := by intro k d; kernel_rfl
theorem F139q : FnOK Proofs.Tryz.prog R139q := fn_b B139q ev139q (loopsOK_of (n := 2) (by kernel_rfl) fun i hi => match i, hi with | 0, _ => ⟨L139_0q, by kernel_rfl, lk139_0q⟩ | 1, _ => ⟨L139_1q, by kernel_rfl, lk139_1q⟩ | i + 2, hi => absurd hi (by omega))

/-! ### giro/pay.Late -/
noncomputable def E140q : Env := ⟨Proofs.Tryz.prog, fun _ => false, sumsOf []⟩
def A140q : Notes := ⟨[], []⟩
theorem B140q : EnvB E140q := env_n mixed_orders trivial
def as140q : List AS := [.agg [.int .i64, .int .i64, .int .i64, .int .i64, .int .i64, .int .i64, .int .i64], .c (.int .i64)]
def rs140q : RS := .c (.bool)
def pk140q : Bool → RL rs140q.cells := fun x => (x, ())
def up140q : RL rs140q.cells → Bool := fun d => d.1
def s140q (k : Nat) (d : AD as140q) := pay_Late k d.1 d.2.1 d.2.2.1 d.2.2.2.1 d.2.2.2.2.1 d.2.2.2.2.2.1 d.2.2.2.2.2.2.1 d.2.2.2.2.2.2.2.1
def R140q : Nat × Entry := (59, fun k nm args h => entry as140q rs140q (s140q k) pk140q nm args h)
theorem ev140q : EvOK E140q A140q 0 Proofs.Tryz.f59 as140q rs140q up140q s140q := by intro k d; kernel_rfl
theorem F140q : FnOK Proofs.Tryz.prog R140q := fn_0 B140q ev140q

/-! ### giro/day.Solves -/
noncomputable def E141q : Env := ⟨Proofs.Tryz.prog, fun _ => false, sumsOf []⟩
def A141q : Notes := ⟨[], []⟩
theorem B141q : EnvB E141q := env_n mixed_orders trivial
def as141q : List AS := [.agg [.int .i64, .dat false y0q, .int .i64, .int .i64, .int .i64], .c (.int .i64)]
def rs141q : RS := .c (.bool)
def pk141q : Bool → RL rs141q.cells := fun x => (x, ())
def up141q : RL rs141q.cells → Bool := fun d => d.1
def s141q (k : Nat) (d : AD as141q) := day_Solves k d.1 d.2.1 d.2.2.1 d.2.2.2.1 d.2.2.2.2.1 d.2.2.2.2.2.1
def R141q : Nat × Entry := (60, fun k nm args h => entry as141q rs141q (s141q k) pk141q nm args h)
theorem ev141q : EvOK E141q A141q 0 Proofs.Tryz.f60 as141q rs141q up141q s141q := by intro k d; kernel_rfl
theorem F141q : FnOK Proofs.Tryz.prog R141q := fn_0 B141q ev141q

/-! ### giro/hour.Tick -/
noncomputable def E142q : Env := ⟨Proofs.Tryz.prog, fun _ => false, sumsOf [R138q, R139q, R140q, R129q, R141q, R131q]⟩
def I142_0q : Spec := ⟨[(2, .c (.lit (.ptr 1001000 0))), (3, .c (.lit (.ptr 1001001 0))), (4, .c (.lit (.ptr 1001002 0))), (6, .c (.lit (.osl 1001003 none))), (7, .c (.lit (.osl 1001004 none))), (27, .c (.dat true y8q)), (28, .c (.int .i64)), (29, .c (.int .i64))], [.box true [.int .i64, .dat false y0q, .int .i64, .int .i64, .int .i64], .box true [.int .i64, .dat true y4q, .dat true (.sl (.int .i64)), .dat true (.int .i64), .dat true (.sl (.int .i64)), .dat true (.int .i64), .dat true (.sl (.int .i64)), .dat true y8q, .dat true (.int .i64), .int .i64, .bool], .box true [.int .i64, .lit .nsl, .lit .nsl, .lit .nsl, .lit .nsl, .lit .nsl, .lit .nsl, .lit .nsl, .lit .nsl, .int .i64, .bool], .arr true y9q, .arr true y8q], [(6, none, y9q, false), (7, none, y8q, false)]⟩
def X0_142_0q : Spec := ⟨[(2, .c (.lit (.ptr 1001000 0))), (3, .c (.lit (.ptr 1001001 0))), (4, .c (.lit (.ptr 1001002 0))), (6, .c (.lit (.osl 1001003 none))), (7, .c (.lit (.osl 1001004 none)))], [.box true [.int .i64, .dat false y0q, .int .i64, .int .i64, .int .i64], .box true [.int .i64, .dat true y4q, .dat true (.sl (.int .i64)), .dat true (.int .i64), .dat true (.sl (.int .i64)), .dat true (.int .i64), .dat true (.sl (.int .i64)), .dat true y8q, .dat true (.int .i64), .int .i64, .bool], .box true [.int .i64, .lit .nsl, .lit .nsl, .lit .nsl, .lit .nsl, .lit .nsl, .lit .nsl, .lit .nsl, .lit .nsl, .int .i64, .bool], .arr true y9q, .arr true y8q], []⟩
def O142_0q : List (Ex × Spec) := [(.exit 0, X0_142_0q)]
def c142_0q (f : hour_Tick_L0T) (d : I142_0q.den) : Option hour_Tick_L0X := f d.1.2.2.2.2.2.1.1 d.1.2.2.2.2.2.2.1.1 d.1.2.2.2.2.2.2.2.1.1 d.2.1.1 d.2.1.2.1 d.2.1.2.2.1 d.2.1.2.2.2.1 d.2.1.2.2.2.2.1 d.2.2.1.1 d.2.2.1.2.1 d.2.2.1.2.2.1 d.2.2.1.2.2.2.1 d.2.2.1.2.2.2.2.1 d.2.2.1.2.2.2.2.2.1 d.2.2.1.2.2.2.2.2.2.1 d.2.2.1.2.2.2.2.2.2.2.1 d.2.2.1.2.2.2.2.2.2.2.2.1 d.2.2.1.2.2.2.2.2.2.2.2.2.1 d.2.2.1.2.2.2.2.2.2.2.2.2.2.1 d.2.2.2.1.1 d.2.2.2.1.2.1 d.2.2.2.1.2.2.1 d.2.2.2.2.1 d.2.2.2.2.2.1
def T142_0q : OutD O142_0q → hour_Tick_L0X := fun d => (d.2.1.1, d.2.1.2.1, d.2.1.2.2.1, d.2.1.2.2.2.1, d.2.1.2.2.2.2.1, d.2.2.1.1, d.2.2.1.2.1, d.2.2.1.2.2.1, d.2.2.1.2.2.2.1, d.2.2.1.2.2.2.2.1, d.2.2.1.2.2.2.2.2.1, d.2.2.1.2.2.2.2.2.2.1, d.2.2.1.2.2.2.2.2.2.2.1, d.2.2.1.2.2.2.2.2.2.2.2.1, d.2.2.1.2.2.2.2.2.2.2.2.2.1, d.2.2.1.2.2.2.2.2.2.2.2.2.2.1, d.2.2.2.1.1, d.2.2.2.1.2.1, d.2.2.2.1.2.2.1, d.2.2.2.2.1, d.2.2.2.2.2.1)
def e142_0q : Elim hour_Tick_L0X := fun base x _ K => K (.exit 0) (stOf base X0_142_0q (((), (), (), (), (), ()), ((x.1, x.2.1, x.2.2.1, x.2.2.2.1, x.2.2.2.2.1, ()), (x.2.2.2.2.2.1, x.2.2.2.2.2.2.1, x.2.2.2.2.2.2.2.1, x.2.2.2.2.2.2.2.2.1, x.2.2.2.2.2.2.2.2.2.1, x.2.2.2.2.2.2.2.2.2.2.1, x.2.2.2.2.2.2.2.2.2.2.2.1, x.2.2.2.2.2.2.2.2.2.2.2.2.1, x.2.2.2.2.2.2.2.2.2.2.2.2.2.1, x.2.2.2.2.2.2.2.2.2.2.2.2.2.2.1, x.2.2.2.2.2.2.2.2.2.2.2.2.2.2.2.1, ()), (x.2.2.2.2.2.2.2.2.2.2.2.2.2.2.2.2.1, x.2.2.2.2.2.2.2.2.2.2.2.2.2.2.2.2.2.1, x.2.2.2.2.2.2.2.2.2.2.2.2.2.2.2.2.2.2.1, ()), x.2.2.2.2.2.2.2.2.2.2.2.2.2.2.2.2.2.2.2.1, x.2.2.2.2.2.2.2.2.2.2.2.2.2.2.2.2.2.2.2.2, ())))
def L142_0q : LoopSum := ⟨I142_0q, O142_0q, hour_Tick_L0X, fun k d => c142_0q (hour_Tick_L0 k k) d, e142_0q⟩
def A142q : Notes := ⟨[], [(9, L142_0q)]⟩
theorem B142q : EnvB E142q := env_n mixed_orders ⟨F138q, F139q, F140q, F129q, F141q, F131q, trivial⟩
theorem st142_0q : StepOK E142q A142q 0 66 (loopAt (bodyOf Proofs.Tryz.f32) 0) I142_0q O142_0q T142_0q c142_0q hour_Tick_L0b := by intro k rec d; kernel_rfl
theorem lk142_0q : LoopOK E142q.P 1000 0 66 (loopAt (bodyOf Proofs.Tryz.f32) 0) L142_0q := loop_b B142q st142_0q hour_Tick_L0 e142_0q (fun _ _ _ => rfl) loops0
def as142q : List AS := [.agg [.int .i64, .dat false y0q, .int .i64, .int .i64, .int .i64], .agg [.int .i64, .dat true y4q, .dat true (.sl (.int .i64)), .dat true (.int .i64), .dat true (.sl (.int .i64)), .dat true (.int .i64), .dat true (.sl (.int .i64)), .dat true y8q, .dat true (.int .i64), .int .i64, .bool]]
def rs142q : RS := .tup [(true, [.int .i64, .fro y4q, .fro (.sl (.int .i64)), .fro (.int .i64), .fro (.sl (.int .i64)), .fro (.int .i64), .fro (.sl (.int .i64)), .fro y8q, .fro (.int .i64), .int .i64, .bool]), (false, [.own y9q])]
def pk142q : Int × (List K3q) × (List (List Int)) × (List Int) × (List (List Int)) × (List Int) × (List (List Int)) × (List K2q) × (List Int) × Int × Bool × (List K1q) → RL rs142q.cells := fun x => (x.1, x.2.1, x.2.2.1, x.2.2.2.1, x.2.2.2.2.1, x.2.2.2.2.2.1, x.2.2.2.2.2.2.1, x.2.2.2.2.2.2.2.1, x.2.2.2.2.2.2.2.2.1, x.2.2.2.2.2.2.2.2.2.1, x.2.2.2.2.2.2.2.2.2.2.1, x.2.2.2.2.2.2.2.2.2.2.2, ())
def up142q : RL rs142q.cells → Int × (List K3q) × (List (List Int)) × (List Int) × (List (List Int)) × (List Int) × (List (List Int)) × (List K2q) × (List Int) × Int × Bool × (List K1q) := fun d => (d.1, d.2.1, d.2.2.1, d.2.2.2.1, d.2.2.2.2.1, d.2.2.2.2.2.1, d.2.2.2.2.2.2.1, d.2.2.2.2.2.2.2.1, d.2.2.2.2.2.2.2.2.1, d.2.2.2.2.2.2.2.2.2.1, d.2.2.2.2.2.2.2.2.2.2.1, d.2.2.2.2.2.2.2.2.2.2.2.1)
def s142q (k : Nat) (d : AD as142q) := hour_Tick k d.1 d.2.1 d.2.2.1 d.2.2.2.1 d.2.2.2.2.1 d.2.2.2.2.2.1 d.2.2.2.2.2.2.1 d.2.2.2.2.2.2.2.1 d.2.2.2.2.2.2.2.2.1 d.2.2.2.2.2.2.2.2.2.1 d.2.2.2.2.2.2.2.2.2.2.1 d.2.2.2.2.2.2.2.2.2.2.2.1 d.2.2.2.2.2.2.2.2.2.2.2.2.1 d.2.2.2.2.2.2.2.2.2.2.2.2.2.1 d.2.2.2.2.2.2.2.2.2.2.2.2.2.2.1 d.2.2.2.2.2.2.2.2.2.2.2.2.2.2.2.1
def R142q : Nat × Entry := (32, fun k nm args h => entry as142q rs142q (s142q k) pk142q nm args h)
theorem ev142q : EvOK E142q A142q 0 Proofs.Tryz.f32 as142q rs142q up142q s142q := by intro k d; kernel_rfl
theorem F142q : FnOK Proofs.Tryz.prog R142q := fn_b B142q ev142q (loops1 lk142_0q)

/-! ### giro/girolaw22.known -/
noncomputable def E143q : Env := ⟨Proofs.Tryz.prog, fun t => [68].any (Nat.beq t), sumsOf [R137q, R128q, R142q, R132q]⟩
def A143q : Notes := ⟨[], []⟩
theorem B143q : EnvB E143q := env_b (eqOK_flat (fun t h => eqT_mem (p := fun t => Proofs.Tryz.prog.keyTypeAt 8 t && !Proofs.Tryz.prog.eqGuardType Proofs.Tryz.prog.depth t) (l := [68]) (List.forall_mem_cons.2 ⟨by kernel_rfl, List.forall_mem_nil _⟩) t h)) mixed_orders ⟨F137q, F128q, F142q, F132q, trivial⟩
def as143q : List AS := []
def rs143q : RS := .c (.bool)
def pk143q : Bool → RL rs143q.cells := fun x => (x, ())
def up143q : RL rs143q.cells → Bool := fun d => d.1
def s143q (k : Nat) (d : AD as143q) := girolaw22_known k
def R143q : Nat × Entry := (16, fun k nm args h => entry as143q rs143q (s143q k) pk143q nm args h)
theorem ev143q : EvOK E143q A143q 0 Proofs.Tryz.f16 as143q rs143q up143q s143q := by intro k d; kernel_rfl
theorem F143q : FnOK Proofs.Tryz.prog R143q := fn_0 B143q ev143q

/-! ### giro/girolaw22.HourSettles -/
noncomputable def E_girolaw22_HourSettles : Env := ⟨Proofs.Tryz.prog, fun _ => false, sumsOf [R128q, R131q, R134q, R108q, R136q, R143q]⟩
def A_girolaw22_HourSettles : Notes := ⟨[], []⟩
theorem B_girolaw22_HourSettles : EnvB E_girolaw22_HourSettles := env_n mixed_orders ⟨F128q, F131q, F134q, F108q, F136q, F143q, trivial⟩
def as_girolaw22_HourSettles : List AS := [.c (.dat false (.int .i64)), .c (.int .i64), .c (.dat false y8q), .c (.int .i64), .c (.bool)]
def rs_girolaw22_HourSettles : RS := .c (.bool)
def pk_girolaw22_HourSettles : Bool → RL rs_girolaw22_HourSettles.cells := fun x => (x, ())
def up_girolaw22_HourSettles : RL rs_girolaw22_HourSettles.cells → Bool := fun d => d.1
def s_girolaw22_HourSettles (k : Nat) (d : AD as_girolaw22_HourSettles) := girolaw22_HourSettles k d.1 d.2.1 d.2.2.1 d.2.2.2.1 d.2.2.2.2.1
def R_girolaw22_HourSettles : Nat × Entry := (4, fun k nm args h => entry as_girolaw22_HourSettles rs_girolaw22_HourSettles (s_girolaw22_HourSettles k) pk_girolaw22_HourSettles nm args h)
theorem girolaw22_HourSettles_ev : EvOK E_girolaw22_HourSettles A_girolaw22_HourSettles 0 Proofs.Tryz.f4 as_girolaw22_HourSettles rs_girolaw22_HourSettles up_girolaw22_HourSettles s_girolaw22_HourSettles := by intro k d; kernel_rfl
theorem F_girolaw22_HourSettles : FnOK Proofs.Tryz.prog R_girolaw22_HourSettles := fn_0 B_girolaw22_HourSettles girolaw22_HourSettles_ev

end Go.Ab.Gi
