/- The shallow functions are what the program does, printed (abprint.py). -/
import Derived.Test.YtdlamiafpciphaaGiXRa
set_option linter.unusedVariables false
set_option maxRecDepth 100000
namespace Go.Ab.Gi

/-! ### giro/pair.next -/
noncomputable def E122q : Env := ⟨Proofs.Try.prog, fun _ => false, sumsOf [R115q, R119q, R72q]⟩
def I122_0q : Spec := ⟨[(3, .c (.lit (.ptr 1001000 0))), (6, .c (.lit (.ptr 1001001 0))), (8, .c (.lit (.osl 1001002 none))), (10, .c (.lit (.ptr 1001003 0))), (18, .c (.lit (.osl 1001002 none))), (19, .c (.int .i64)), (20, .c (.int .i64)), (24, .c (.lit (.osl 1001002 none))), (25, .c (.int .i64)), (26, .c (.int .i64))], [.box true [.dat true y3q, .dat true (.sl (.int .i64)), .dat true (.int .i64), .dat true (.sl (.int .i64))], .box true [.int .i64, .int .i64, .int .i64, .int .i64, .int .i64, .int .i64, .int .i64, .int .i64, .int .i64, .int .i64, .int .i64, .int .i64, .int .i64, .int .i64, .lit .nsl, .lit .nsl, .lit .nsl, .lit .nsl], .arr true y7q, .box true [.int .i64, .int .i64, .int .i64, .int .i64, .int .i64, .int .i64, .int .i64]], []⟩
def X0_122_0q : Spec := ⟨[(3, .c (.lit (.ptr 1001000 0))), (6, .c (.lit (.ptr 1001001 0))), (8, .c (.lit (.osl 1001002 none))), (18, .c (.lit (.osl 1001002 none))), (19, .c (.int .i64)), (20, .c (.int .i64))], [.box true [.dat true y3q, .dat true (.sl (.int .i64)), .dat true (.int .i64), .dat true (.sl (.int .i64))], .box true [.int .i64, .int .i64, .int .i64, .int .i64, .int .i64, .int .i64, .int .i64, .int .i64, .int .i64, .int .i64, .int .i64, .int .i64, .int .i64, .int .i64, .lit .nsl, .lit .nsl, .lit .nsl, .lit .nsl], .arr true y7q], []⟩
def X1_122_0q : Spec := ⟨[(6, .c (.lit (.ptr 1001000 0))), (7, .c (.bool))], [.box true [.int .i64, .int .i64, .int .i64, .int .i64, .int .i64, .int .i64, .int .i64, .int .i64, .int .i64, .int .i64, .int .i64, .int .i64, .int .i64, .int .i64, .dat true y3q, .dat true (.sl (.int .i64)), .dat true (.int .i64), .dat true (.sl (.int .i64))]], []⟩
def O122_0q : List (Ex × Spec) := [(.exit 2, X0_122_0q), (.ret, X1_122_0q)]
def c122_0q (f : pair_next_L1T) (d : I122_0q.den) : Option pair_next_L1X := f d.1.2.2.2.2.2.1.1 d.1.2.2.2.2.2.2.1.1 d.1.2.2.2.2.2.2.2.2.1.1 d.1.2.2.2.2.2.2.2.2.2.1.1 d.2.1.1 d.2.1.2.1 d.2.1.2.2.1 d.2.1.2.2.2.1 d.2.2.1.1 d.2.2.1.2.1 d.2.2.1.2.2.1 d.2.2.1.2.2.2.1 d.2.2.1.2.2.2.2.1 d.2.2.1.2.2.2.2.2.1 d.2.2.1.2.2.2.2.2.2.1 d.2.2.1.2.2.2.2.2.2.2.1 d.2.2.1.2.2.2.2.2.2.2.2.1 d.2.2.1.2.2.2.2.2.2.2.2.2.1 d.2.2.1.2.2.2.2.2.2.2.2.2.2.1 d.2.2.1.2.2.2.2.2.2.2.2.2.2.2.1 d.2.2.1.2.2.2.2.2.2.2.2.2.2.2.2.1 d.2.2.1.2.2.2.2.2.2.2.2.2.2.2.2.2.1 d.2.2.2.1 d.2.2.2.2.1.1 d.2.2.2.2.1.2.1 d.2.2.2.2.1.2.2.1 d.2.2.2.2.1.2.2.2.1 d.2.2.2.2.1.2.2.2.2.1 d.2.2.2.2.1.2.2.2.2.2.1 d.2.2.2.2.1.2.2.2.2.2.2.1
def T122_0q : OutD O122_0q → pair_next_L1X
 | .inl d => .inl (d.1.2.2.2.2.1.1, d.1.2.2.2.2.2.1.1, d.2.1.1, d.2.1.2.1, d.2.1.2.2.1, d.2.1.2.2.2.1, d.2.2.1.1, d.2.2.1.2.1, d.2.2.1.2.2.1, d.2.2.1.2.2.2.1, d.2.2.1.2.2.2.2.1, d.2.2.1.2.2.2.2.2.1, d.2.2.1.2.2.2.2.2.2.1, d.2.2.1.2.2.2.2.2.2.2.1, d.2.2.1.2.2.2.2.2.2.2.2.1, d.2.2.1.2.2.2.2.2.2.2.2.2.1, d.2.2.1.2.2.2.2.2.2.2.2.2.2.1, d.2.2.1.2.2.2.2.2.2.2.2.2.2.2.1, d.2.2.1.2.2.2.2.2.2.2.2.2.2.2.2.1, d.2.2.1.2.2.2.2.2.2.2.2.2.2.2.2.2.1, d.2.2.2.1)
 | .inr d => .inr (d.1.2.1.1, d.2.1.1, d.2.1.2.1, d.2.1.2.2.1, d.2.1.2.2.2.1, d.2.1.2.2.2.2.1, d.2.1.2.2.2.2.2.1, d.2.1.2.2.2.2.2.2.1, d.2.1.2.2.2.2.2.2.2.1, d.2.1.2.2.2.2.2.2.2.2.1, d.2.1.2.2.2.2.2.2.2.2.2.1, d.2.1.2.2.2.2.2.2.2.2.2.2.1, d.2.1.2.2.2.2.2.2.2.2.2.2.2.1, d.2.1.2.2.2.2.2.2.2.2.2.2.2.2.1, d.2.1.2.2.2.2.2.2.2.2.2.2.2.2.2.1, d.2.1.2.2.2.2.2.2.2.2.2.2.2.2.2.2.1, d.2.1.2.2.2.2.2.2.2.2.2.2.2.2.2.2.2.1, d.2.1.2.2.2.2.2.2.2.2.2.2.2.2.2.2.2.2.1, d.2.1.2.2.2.2.2.2.2.2.2.2.2.2.2.2.2.2.2.1)
def e122_0q (base : Nat) (x : pair_next_L1X) (R : Type) (K : Ex → St → Option R) : Option R := match x with
 | .inl x => K (.exit 2) (stOf base X0_122_0q (((), (), (), (), (x.1, ()), (x.2.1, ()), ()), ((x.2.2.1, x.2.2.2.1, x.2.2.2.2.1, x.2.2.2.2.2.1, ()), (x.2.2.2.2.2.2.1, x.2.2.2.2.2.2.2.1, x.2.2.2.2.2.2.2.2.1, x.2.2.2.2.2.2.2.2.2.1, x.2.2.2.2.2.2.2.2.2.2.1, x.2.2.2.2.2.2.2.2.2.2.2.1, x.2.2.2.2.2.2.2.2.2.2.2.2.1, x.2.2.2.2.2.2.2.2.2.2.2.2.2.1, x.2.2.2.2.2.2.2.2.2.2.2.2.2.2.1, x.2.2.2.2.2.2.2.2.2.2.2.2.2.2.2.1, x.2.2.2.2.2.2.2.2.2.2.2.2.2.2.2.2.1, x.2.2.2.2.2.2.2.2.2.2.2.2.2.2.2.2.2.1, x.2.2.2.2.2.2.2.2.2.2.2.2.2.2.2.2.2.2.1, x.2.2.2.2.2.2.2.2.2.2.2.2.2.2.2.2.2.2.2.1, ()), x.2.2.2.2.2.2.2.2.2.2.2.2.2.2.2.2.2.2.2.2, ())))
 | .inr x => K .ret (stOf base X1_122_0q (((), (x.1, ()), ()), ((x.2.1, x.2.2.1, x.2.2.2.1, x.2.2.2.2.1, x.2.2.2.2.2.1, x.2.2.2.2.2.2.1, x.2.2.2.2.2.2.2.1, x.2.2.2.2.2.2.2.2.1, x.2.2.2.2.2.2.2.2.2.1, x.2.2.2.2.2.2.2.2.2.2.1, x.2.2.2.2.2.2.2.2.2.2.2.1, x.2.2.2.2.2.2.2.2.2.2.2.2.1, x.2.2.2.2.2.2.2.2.2.2.2.2.2.1, x.2.2.2.2.2.2.2.2.2.2.2.2.2.2.1, x.2.2.2.2.2.2.2.2.2.2.2.2.2.2.2.1, x.2.2.2.2.2.2.2.2.2.2.2.2.2.2.2.2.1, x.2.2.2.2.2.2.2.2.2.2.2.2.2.2.2.2.2.1, x.2.2.2.2.2.2.2.2.2.2.2.2.2.2.2.2.2.2, ()), ())))
def L122_0q : LoopSum := ⟨I122_0q, O122_0q, pair_next_L1X, fun k d => c122_0q (pair_next_L1 k k) d, e122_0q⟩
def I122_1q : Spec := ⟨[(3, .c (.lit (.ptr 1001000 0))), (6, .c (.lit (.ptr 1001001 0))), (8, .c (.lit (.osl 1001002 none))), (18, .c (.lit (.osl 1001002 none))), (19, .c (.int .i64)), (20, .c (.int .i64))], [.box true [.dat true y3q, .dat true (.sl (.int .i64)), .dat true (.int .i64), .dat true (.sl (.int .i64))], .box true [.int .i64, .int .i64, .int .i64, .int .i64, .int .i64, .int .i64, .int .i64, .int .i64, .int .i64, .int .i64, .int .i64, .int .i64, .int .i64, .int .i64, .lit .nsl, .lit .nsl, .lit .nsl, .lit .nsl], .arr true y7q], []⟩
def X0_122_1q : Spec := ⟨[(6, .c (.lit (.ptr 1001000 0)))], [.box true [.int .i64, .int .i64, .int .i64, .int .i64, .int .i64, .int .i64, .int .i64, .int .i64, .int .i64, .int .i64, .int .i64, .int .i64, .int .i64, .int .i64, .lit .nsl, .lit .nsl, .lit .nsl, .lit .nsl]], []⟩
def X1_122_1q : Spec := ⟨[(6, .c (.lit (.ptr 1001000 0))), (7, .c (.bool))], [.box true [.int .i64, .int .i64, .int .i64, .int .i64, .int .i64, .int .i64, .int .i64, .int .i64, .int .i64, .int .i64, .int .i64, .int .i64, .int .i64, .int .i64, .dat true y3q, .dat true (.sl (.int .i64)), .dat true (.int .i64), .dat true (.sl (.int .i64))]], []⟩
def O122_1q : List (Ex × Spec) := [(.exit 0, X0_122_1q), (.ret, X1_122_1q)]
def c122_1q (f : pair_next_L0T) (d : I122_1q.den) : Option pair_next_L0X := f d.1.2.2.2.2.1.1 d.1.2.2.2.2.2.1.1 d.2.1.1 d.2.1.2.1 d.2.1.2.2.1 d.2.1.2.2.2.1 d.2.2.1.1 d.2.2.1.2.1 d.2.2.1.2.2.1 d.2.2.1.2.2.2.1 d.2.2.1.2.2.2.2.1 d.2.2.1.2.2.2.2.2.1 d.2.2.1.2.2.2.2.2.2.1 d.2.2.1.2.2.2.2.2.2.2.1 d.2.2.1.2.2.2.2.2.2.2.2.1 d.2.2.1.2.2.2.2.2.2.2.2.2.1 d.2.2.1.2.2.2.2.2.2.2.2.2.2.1 d.2.2.1.2.2.2.2.2.2.2.2.2.2.2.1 d.2.2.1.2.2.2.2.2.2.2.2.2.2.2.2.1 d.2.2.1.2.2.2.2.2.2.2.2.2.2.2.2.2.1 d.2.2.2.1
def T122_1q : OutD O122_1q → pair_next_L0X
 | .inl d => .inl (d.2.1.1, d.2.1.2.1, d.2.1.2.2.1, d.2.1.2.2.2.1, d.2.1.2.2.2.2.1, d.2.1.2.2.2.2.2.1, d.2.1.2.2.2.2.2.2.1, d.2.1.2.2.2.2.2.2.2.1, d.2.1.2.2.2.2.2.2.2.2.1, d.2.1.2.2.2.2.2.2.2.2.2.1, d.2.1.2.2.2.2.2.2.2.2.2.2.1, d.2.1.2.2.2.2.2.2.2.2.2.2.2.1, d.2.1.2.2.2.2.2.2.2.2.2.2.2.2.1, d.2.1.2.2.2.2.2.2.2.2.2.2.2.2.2.1)
 | .inr d => .inr (d.1.2.1.1, d.2.1.1, d.2.1.2.1, d.2.1.2.2.1, d.2.1.2.2.2.1, d.2.1.2.2.2.2.1, d.2.1.2.2.2.2.2.1, d.2.1.2.2.2.2.2.2.1, d.2.1.2.2.2.2.2.2.2.1, d.2.1.2.2.2.2.2.2.2.2.1, d.2.1.2.2.2.2.2.2.2.2.2.1, d.2.1.2.2.2.2.2.2.2.2.2.2.1, d.2.1.2.2.2.2.2.2.2.2.2.2.2.1, d.2.1.2.2.2.2.2.2.2.2.2.2.2.2.1, d.2.1.2.2.2.2.2.2.2.2.2.2.2.2.2.1, d.2.1.2.2.2.2.2.2.2.2.2.2.2.2.2.2.1, d.2.1.2.2.2.2.2.2.2.2.2.2.2.2.2.2.2.1, d.2.1.2.2.2.2.2.2.2.2.2.2.2.2.2.2.2.2.1, d.2.1.2.2.2.2.2.2.2.2.2.2.2.2.2.2.2.2.2.1)
def e122_1q (base : Nat) (x : pair_next_L0X) (R : Type) (K : Ex → St → Option R) : Option R := match x with
 | .inl x => K (.exit 0) (stOf base X0_122_1q (((), ()), ((x.1, x.2.1, x.2.2.1, x.2.2.2.1, x.2.2.2.2.1, x.2.2.2.2.2.1, x.2.2.2.2.2.2.1, x.2.2.2.2.2.2.2.1, x.2.2.2.2.2.2.2.2.1, x.2.2.2.2.2.2.2.2.2.1, x.2.2.2.2.2.2.2.2.2.2.1, x.2.2.2.2.2.2.2.2.2.2.2.1, x.2.2.2.2.2.2.2.2.2.2.2.2.1, x.2.2.2.2.2.2.2.2.2.2.2.2.2, ()), ())))
 | .inr x => K .ret (stOf base X1_122_1q (((), (x.1, ()), ()), ((x.2.1, x.2.2.1, x.2.2.2.1, x.2.2.2.2.1, x.2.2.2.2.2.1, x.2.2.2.2.2.2.1, x.2.2.2.2.2.2.2.1, x.2.2.2.2.2.2.2.2.1, x.2.2.2.2.2.2.2.2.2.1, x.2.2.2.2.2.2.2.2.2.2.1, x.2.2.2.2.2.2.2.2.2.2.2.1, x.2.2.2.2.2.2.2.2.2.2.2.2.1, x.2.2.2.2.2.2.2.2.2.2.2.2.2.1, x.2.2.2.2.2.2.2.2.2.2.2.2.2.2.1, x.2.2.2.2.2.2.2.2.2.2.2.2.2.2.2.1, x.2.2.2.2.2.2.2.2.2.2.2.2.2.2.2.2.1, x.2.2.2.2.2.2.2.2.2.2.2.2.2.2.2.2.2.1, x.2.2.2.2.2.2.2.2.2.2.2.2.2.2.2.2.2.2, ()), ())))
def L122_1q : LoopSum := ⟨I122_1q, O122_1q, pair_next_L0X, fun k d => c122_1q (pair_next_L0 k k) d, e122_1q⟩
def A122q : Notes := ⟨[], [(6, L122_0q), (3, L122_1q)]⟩
theorem B122q : EnvB E122q := env_n mixed_orders ⟨F115q, F119q, F72q, trivial⟩
theorem st122_0q (k : Nat) (rec : pair_next_L1T) (d : I122_0q.den) : c122_0q (pair_next_L1b k rec) d = evC E122q A122q k 1000 0 74 (loopAt (loopAt (bodyOf Proofs.Try.f127) 0) 0) (stOf (1000 + loopBase) I122_0q d) (roundK 1000 I122_0q O122_0q T122_0q (c122_0q rec)) := by
  obtain ⟨⟨_, _, _, _, _, ⟨_, _⟩, ⟨_, _⟩, _, ⟨_, _⟩, ⟨_, _⟩, _⟩, ⟨⟨_, _, _, _, _⟩, ⟨_, _, _, _, _, _, _, _, _, _, _, _, _, _, _⟩, _, ⟨_, _, _, _, _, _, _, _⟩, _⟩⟩ := d
  kernel_rfl
theorem lk122_0q : LoopOK Proofs.Try.prog 1000 0 74 (loopAt (loopAt (bodyOf Proofs.Try.f127) 0) 0) L122_0q :=
  loop_b (A := A122q) (inS := I122_0q) (outs := O122_0q) B122q (loopsOK_none (by kernel_rfl)) T122_0q e122_0q (by intro o R K; rcases o with o | o <;> rfl) (fun k n d => c122_0q (pair_next_L1 k n) d) (fun _ _ => rfl) (fun k n d => st122_0q k (pair_next_L1 k n) d)
theorem st122_1q (k : Nat) (rec : pair_next_L0T) (d : I122_1q.den) : c122_1q (pair_next_L0b k rec) d = evC E122q A122q k 1000 0 74 (loopAt (bodyOf Proofs.Try.f127) 0) (stOf (1000 + loopBase) I122_1q d) (roundK 1000 I122_1q O122_1q T122_1q (c122_1q rec)) := by
  obtain ⟨⟨_, _, _, _, ⟨_, _⟩, ⟨_, _⟩, _⟩, ⟨⟨_, _, _, _, _⟩, ⟨_, _, _, _, _, _, _, _, _, _, _, _, _, _, _⟩, _, _⟩⟩ := d
  kernel_rfl
theorem lk122_1q : LoopOK Proofs.Try.prog 1000 0 74 (loopAt (bodyOf Proofs.Try.f127) 0) L122_1q :=
  loop_b (A := A122q) (inS := I122_1q) (outs := O122_1q) B122q (loopsOK_of (n := 1) (by kernel_rfl) fun i hi => match i, hi with | 0, _ => ⟨L122_0q, by kernel_rfl, lk122_0q⟩ | i + 1, hi => absurd hi (by omega)) T122_1q e122_1q (by intro o R K; rcases o with o | o <;> rfl) (fun k n d => c122_1q (pair_next_L0 k n) d) (fun _ _ => rfl) (fun k n d => st122_1q k (pair_next_L0 k n) d)
def as122q : List AS := [.agg [.dat true y3q, .dat true (.sl (.int .i64)), .dat true (.int .i64), .dat true (.sl (.int .i64))], .c (.dat true y7q), .c (.int .i64)]
def rs122q : RS := .tup [(true, [.int .i64, .int .i64, .int .i64, .int .i64, .int .i64, .int .i64, .int .i64, .int .i64, .int .i64, .int .i64, .int .i64, .int .i64, .int .i64, .int .i64, .fro y3q, .fro (.sl (.int .i64)), .fro (.int .i64), .fro (.sl (.int .i64))]), (false, [.bool])]
def pk122q : Int × Int × Int × Int × Int × Int × Int × Int × Int × Int × Int × Int × Int × Int × (List K2q) × (List (List Int)) × (List Int) × (List (List Int)) × Bool → RL rs122q.cells := fun x => (x.1, x.2.1, x.2.2.1, x.2.2.2.1, x.2.2.2.2.1, x.2.2.2.2.2.1, x.2.2.2.2.2.2.1, x.2.2.2.2.2.2.2.1, x.2.2.2.2.2.2.2.2.1, x.2.2.2.2.2.2.2.2.2.1, x.2.2.2.2.2.2.2.2.2.2.1, x.2.2.2.2.2.2.2.2.2.2.2.1, x.2.2.2.2.2.2.2.2.2.2.2.2.1, x.2.2.2.2.2.2.2.2.2.2.2.2.2.1, x.2.2.2.2.2.2.2.2.2.2.2.2.2.2.1, x.2.2.2.2.2.2.2.2.2.2.2.2.2.2.2.1, x.2.2.2.2.2.2.2.2.2.2.2.2.2.2.2.2.1, x.2.2.2.2.2.2.2.2.2.2.2.2.2.2.2.2.2.1, x.2.2.2.2.2.2.2.2.2.2.2.2.2.2.2.2.2.2, ())
def up122q : RL rs122q.cells → Int × Int × Int × Int × Int × Int × Int × Int × Int × Int × Int × Int × Int × Int × (List K2q) × (List (List Int)) × (List Int) × (List (List Int)) × Bool := fun d => (d.1, d.2.1, d.2.2.1, d.2.2.2.1, d.2.2.2.2.1, d.2.2.2.2.2.1, d.2.2.2.2.2.2.1, d.2.2.2.2.2.2.2.1, d.2.2.2.2.2.2.2.2.1, d.2.2.2.2.2.2.2.2.2.1, d.2.2.2.2.2.2.2.2.2.2.1, d.2.2.2.2.2.2.2.2.2.2.2.1, d.2.2.2.2.2.2.2.2.2.2.2.2.1, d.2.2.2.2.2.2.2.2.2.2.2.2.2.1, d.2.2.2.2.2.2.2.2.2.2.2.2.2.2.1, d.2.2.2.2.2.2.2.2.2.2.2.2.2.2.2.1, d.2.2.2.2.2.2.2.2.2.2.2.2.2.2.2.2.1, d.2.2.2.2.2.2.2.2.2.2.2.2.2.2.2.2.2.1, d.2.2.2.2.2.2.2.2.2.2.2.2.2.2.2.2.2.2.1)
def s122q (k : Nat) (d : AD as122q) := pair_next k d.1 d.2.1 d.2.2.1 d.2.2.2.1 d.2.2.2.2.1 d.2.2.2.2.2.1
def R122q : Nat × Entry := (127, fun k nm args h => entry as122q rs122q (s122q k) pk122q nm args h)
theorem ev122q (k : Nat) (d : AD as122q) : evF E122q A122q k 1000 0 Proofs.Try.f127 (absArgs as122q d).1 (absArgs as122q d).2 (outM rs122q up122q) = s122q k d := by
  obtain ⟨_, _, _, _, _, _, _⟩ := d
  kernel_rfl
theorem F122q : FnOK Proofs.Try.prog R122q := fn_b (E := E122q) (A := A122q) (na := 0) (fn := Proofs.Try.f127) (S := s122q) (unpack := up122q) B122q (by kernel_rfl) (loopsOK_of (n := 1) (by kernel_rfl) fun i hi => match i, hi with | 0, _ => ⟨L122_1q, by kernel_rfl, lk122_1q⟩ | i + 1, hi => absurd hi (by omega)) (by kernel_rfl) (by kernel_rfl) (fun _ => rfl) ev122q

/-! ### giro/pair.Run -/
noncomputable def E123q : Env := ⟨Proofs.Try.prog, fun _ => false, sumsOf [R122q, R78q]⟩
def I123_0q : Spec := ⟨[(2, .c (.int .i64)), (6, .c (.lit (.ptr 1001000 0))), (7, .c (.dat true y7q)), (8, .c (.lit (.osl 1001001 none))), (33, .c (.lit (.osl 1001002 none))), (34, .c (.int .i64)), (35, .c (.int .i64))], [.box true [.dat true y3q, .dat true (.sl (.int .i64)), .dat true (.int .i64), .dat true (.sl (.int .i64))], .arr true y7q, .arr true y7q], [(8, none, y7q, false)]⟩
def X0_123_0q : Spec := ⟨[(2, .c (.int .i64)), (6, .c (.lit (.ptr 1001000 0))), (7, .c (.dat true y7q)), (8, .c (.lit (.osl 1001001 none)))], [.box true [.dat true y3q, .dat true (.sl (.int .i64)), .dat true (.int .i64), .dat true (.sl (.int .i64))], .arr true y7q], []⟩
def O123_0q : List (Ex × Spec) := [(.exit 2, X0_123_0q)]
def c123_0q (f : pair_Run_L1T) (d : I123_0q.den) : Option pair_Run_L1X := f d.1.1.1 d.1.2.2.1.1 d.1.2.2.2.2.2.1.1 d.1.2.2.2.2.2.2.1.1 d.2.1.1 d.2.1.2.1 d.2.1.2.2.1 d.2.1.2.2.2.1 d.2.2.1 d.2.2.2.1
def T123_0q : OutD O123_0q → pair_Run_L1X := fun d => (d.1.1.1, d.1.2.2.1.1, d.2.1.1, d.2.1.2.1, d.2.1.2.2.1, d.2.1.2.2.2.1, d.2.2.1)
def e123_0q (base : Nat) (x : pair_Run_L1X) (R : Type) (K : Ex → St → Option R) : Option R := K (.exit 2) (stOf base X0_123_0q (((x.1, ()), (), (x.2.1, ()), (), ()), ((x.2.2.1, x.2.2.2.1, x.2.2.2.2.1, x.2.2.2.2.2.1, ()), x.2.2.2.2.2.2, ())))
def L123_0q : LoopSum := ⟨I123_0q, O123_0q, pair_Run_L1X, fun k d => c123_0q (pair_Run_L1 k k) d, e123_0q⟩
def I123_1q : Spec := ⟨[(2, .c (.int .i64)), (6, .c (.lit (.ptr 1001000 0))), (7, .c (.dat true y7q)), (8, .c (.lit (.osl 1001001 none)))], [.box true [.dat true y3q, .dat true (.sl (.int .i64)), .dat true (.int .i64), .dat true (.sl (.int .i64))], .arr true y7q], [(8, none, y7q, false)]⟩
def X0_123_1q : Spec := ⟨[(6, .c (.lit (.ptr 1001000 0))), (7, .c (.dat true y7q)), (8, .c (.lit (.osl 1001001 none)))], [.box true [.dat true y3q, .dat true (.sl (.int .i64)), .dat true (.int .i64), .dat true (.sl (.int .i64))], .arr true y7q], []⟩
def O123_1q : List (Ex × Spec) := [(.ret, X0_123_1q)]
def c123_1q (f : pair_Run_L0T) (d : I123_1q.den) : Option pair_Run_L0X := f d.1.1.1 d.1.2.2.1.1 d.2.1.1 d.2.1.2.1 d.2.1.2.2.1 d.2.1.2.2.2.1 d.2.2.1
def T123_1q : OutD O123_1q → pair_Run_L0X := fun d => (d.1.2.1.1, d.2.1.1, d.2.1.2.1, d.2.1.2.2.1, d.2.1.2.2.2.1, d.2.2.1)
def e123_1q (base : Nat) (x : pair_Run_L0X) (R : Type) (K : Ex → St → Option R) : Option R := K .ret (stOf base X0_123_1q (((), (x.1, ()), (), ()), ((x.2.1, x.2.2.1, x.2.2.2.1, x.2.2.2.2.1, ()), x.2.2.2.2.2, ())))
def L123_1q : LoopSum := ⟨I123_1q, O123_1q, pair_Run_L0X, fun k d => c123_1q (pair_Run_L0 k k) d, e123_1q⟩
def A123q : Notes := ⟨[], [(7, L123_0q), (2, L123_1q)]⟩
theorem B123q : EnvB E123q := env_n mixed_orders ⟨F122q, F78q, trivial⟩
theorem st123_0q (k : Nat) (rec : pair_Run_L1T) (d : I123_0q.den) : c123_0q (pair_Run_L1b k rec) d = evC E123q A123q k 1000 0 52 (loopAt (loopAt (bodyOf Proofs.Try.f106) 0) 0) (stOf (1000 + loopBase) I123_0q d) (roundK 1000 I123_0q O123_0q T123_0q (c123_0q rec)) := by
  obtain ⟨⟨⟨_, _⟩, _, ⟨_, _⟩, _, _, ⟨_, _⟩, ⟨_, _⟩, _⟩, ⟨⟨_, _, _, _, _⟩, _, _, _⟩⟩ := d
  kernel_rfl
theorem lk123_0q : LoopOK Proofs.Try.prog 1000 0 52 (loopAt (loopAt (bodyOf Proofs.Try.f106) 0) 0) L123_0q :=
  loop_b (A := A123q) (inS := I123_0q) (outs := O123_0q) B123q (loopsOK_none (by kernel_rfl)) T123_0q e123_0q (fun _ _ _ => rfl) (fun k n d => c123_0q (pair_Run_L1 k n) d) (fun _ _ => rfl) (fun k n d => st123_0q k (pair_Run_L1 k n) d)
theorem st123_1q (k : Nat) (rec : pair_Run_L0T) (d : I123_1q.den) : c123_1q (pair_Run_L0b k rec) d = evC E123q A123q k 1000 0 52 (loopAt (bodyOf Proofs.Try.f106) 0) (stOf (1000 + loopBase) I123_1q d) (roundK 1000 I123_1q O123_1q T123_1q (c123_1q rec)) := by
  obtain ⟨⟨⟨_, _⟩, _, ⟨_, _⟩, _, _⟩, ⟨⟨_, _, _, _, _⟩, _, _⟩⟩ := d
  kernel_rfl
theorem lk123_1q : LoopOK Proofs.Try.prog 1000 0 52 (loopAt (bodyOf Proofs.Try.f106) 0) L123_1q :=
  loop_b (A := A123q) (inS := I123_1q) (outs := O123_1q) B123q (loopsOK_of (n := 1) (by kernel_rfl) fun i hi => match i, hi with | 0, _ => ⟨L123_0q, by kernel_rfl, lk123_0q⟩ | i + 1, hi => absurd hi (by omega)) T123_1q e123_1q (fun _ _ _ => rfl) (fun k n d => c123_1q (pair_Run_L0 k n) d) (fun _ _ => rfl) (fun k n d => st123_1q k (pair_Run_L0 k n) d)
def as123q : List AS := [.agg [.dat true y3q, .dat true (.sl (.int .i64)), .dat true (.int .i64), .dat true (.sl (.int .i64))], .c (.dat true y7q), .c (.int .i64)]
def rs123q : RS := .tup [(true, [.fro y3q, .fro (.sl (.int .i64)), .fro (.int .i64), .fro (.sl (.int .i64))]), (false, [.fro y7q]), (false, [.own y7q])]
def pk123q : (List K2q) × (List (List Int)) × (List Int) × (List (List Int)) × (List K1q) × (List K1q) → RL rs123q.cells := fun x => (x.1, x.2.1, x.2.2.1, x.2.2.2.1, x.2.2.2.2.1, x.2.2.2.2.2, ())
def up123q : RL rs123q.cells → (List K2q) × (List (List Int)) × (List Int) × (List (List Int)) × (List K1q) × (List K1q) := fun d => (d.1, d.2.1, d.2.2.1, d.2.2.2.1, d.2.2.2.2.1, d.2.2.2.2.2.1)
def s123q (k : Nat) (d : AD as123q) := pair_Run k d.1 d.2.1 d.2.2.1 d.2.2.2.1 d.2.2.2.2.1 d.2.2.2.2.2.1
def R123q : Nat × Entry := (106, fun k nm args h => entry as123q rs123q (s123q k) pk123q nm args h)
theorem ev123q (k : Nat) (d : AD as123q) : evF E123q A123q k 1000 0 Proofs.Try.f106 (absArgs as123q d).1 (absArgs as123q d).2 (outM rs123q up123q) = s123q k d := by
  obtain ⟨_, _, _, _, _, _, _⟩ := d
  kernel_rfl
theorem F123q : FnOK Proofs.Try.prog R123q := fn_b (E := E123q) (A := A123q) (na := 0) (fn := Proofs.Try.f106) (S := s123q) (unpack := up123q) B123q (by kernel_rfl) (loopsOK_of (n := 1) (by kernel_rfl) fun i hi => match i, hi with | 0, _ => ⟨L123_1q, by kernel_rfl, lk123_1q⟩ | i + 1, hi => absurd hi (by omega)) (by kernel_rfl) (by kernel_rfl) (fun _ => rfl) ev123q

/-! ### giro/settle.some -/
noncomputable def E124q : Env := ⟨Proofs.Try.prog, fun _ => false, sumsOf [R121q, R123q]⟩
def I124_0q : Spec := ⟨[(2, .c (.int .i64)), (6, .c (.lit (.ptr 1001000 0))), (7, .c (.dat true y7q)), (8, .c (.lit (.osl 1001001 none)))], [.box true [.dat true y3q, .dat true (.sl (.int .i64)), .dat true (.int .i64), .dat true (.sl (.int .i64))], .arr true y7q], [(8, none, y7q, false)]⟩
def X0_124_0q : Spec := ⟨[(6, .c (.lit (.ptr 1001000 0))), (7, .c (.dat true y7q)), (8, .c (.lit (.osl 1001001 none)))], [.box true [.dat true y3q, .dat true (.sl (.int .i64)), .dat true (.int .i64), .dat true (.sl (.int .i64))], .arr true y7q], []⟩
def O124_0q : List (Ex × Spec) := [(.ret, X0_124_0q)]
def c124_0q (f : settle_some_L0T) (d : I124_0q.den) : Option settle_some_L0X := f d.1.1.1 d.1.2.2.1.1 d.2.1.1 d.2.1.2.1 d.2.1.2.2.1 d.2.1.2.2.2.1 d.2.2.1
def T124_0q : OutD O124_0q → settle_some_L0X := fun d => (d.1.2.1.1, d.2.1.1, d.2.1.2.1, d.2.1.2.2.1, d.2.1.2.2.2.1, d.2.2.1)
def e124_0q (base : Nat) (x : settle_some_L0X) (R : Type) (K : Ex → St → Option R) : Option R := K .ret (stOf base X0_124_0q (((), (x.1, ()), (), ()), ((x.2.1, x.2.2.1, x.2.2.2.1, x.2.2.2.2.1, ()), x.2.2.2.2.2, ())))
def L124_0q : LoopSum := ⟨I124_0q, O124_0q, settle_some_L0X, fun k d => c124_0q (settle_some_L0 k k) d, e124_0q⟩
def A124q : Notes := ⟨[], [(2, L124_0q)]⟩
theorem B124q : EnvB E124q := env_n mixed_orders ⟨F121q, F123q, trivial⟩
theorem st124_0q (k : Nat) (rec : settle_some_L0T) (d : I124_0q.den) : c124_0q (settle_some_L0b k rec) d = evC E124q A124q k 1000 0 40 (loopAt (bodyOf Proofs.Try.f68) 0) (stOf (1000 + loopBase) I124_0q d) (roundK 1000 I124_0q O124_0q T124_0q (c124_0q rec)) := by
  obtain ⟨⟨⟨_, _⟩, _, ⟨_, _⟩, _, _⟩, ⟨⟨_, _, _, _, _⟩, _, _⟩⟩ := d
  kernel_rfl
theorem lk124_0q : LoopOK Proofs.Try.prog 1000 0 40 (loopAt (bodyOf Proofs.Try.f68) 0) L124_0q :=
  loop_b (A := A124q) (inS := I124_0q) (outs := O124_0q) B124q (loopsOK_none (by kernel_rfl)) T124_0q e124_0q (fun _ _ _ => rfl) (fun k n d => c124_0q (settle_some_L0 k n) d) (fun _ _ => rfl) (fun k n d => st124_0q k (settle_some_L0 k n) d)
def as124q : List AS := [.agg [.dat true y3q, .dat true (.sl (.int .i64)), .dat true (.int .i64), .dat true (.sl (.int .i64))], .c (.dat true y7q), .c (.int .i64)]
def rs124q : RS := .tup [(true, [.fro y3q, .fro (.sl (.int .i64)), .fro (.int .i64), .fro (.sl (.int .i64))]), (false, [.fro y7q]), (false, [.own y7q])]
def pk124q : (List K2q) × (List (List Int)) × (List Int) × (List (List Int)) × (List K1q) × (List K1q) → RL rs124q.cells := fun x => (x.1, x.2.1, x.2.2.1, x.2.2.2.1, x.2.2.2.2.1, x.2.2.2.2.2, ())
def up124q : RL rs124q.cells → (List K2q) × (List (List Int)) × (List Int) × (List (List Int)) × (List K1q) × (List K1q) := fun d => (d.1, d.2.1, d.2.2.1, d.2.2.2.1, d.2.2.2.2.1, d.2.2.2.2.2.1)
def s124q (k : Nat) (d : AD as124q) := settle_some k d.1 d.2.1 d.2.2.1 d.2.2.2.1 d.2.2.2.2.1 d.2.2.2.2.2.1
def R124q : Nat × Entry := (68, fun k nm args h => entry as124q rs124q (s124q k) pk124q nm args h)
theorem ev124q (k : Nat) (d : AD as124q) : evF E124q A124q k 1000 0 Proofs.Try.f68 (absArgs as124q d).1 (absArgs as124q d).2 (outM rs124q up124q) = s124q k d := by
  obtain ⟨_, _, _, _, _, _, _⟩ := d
  kernel_rfl
theorem F124q : FnOK Proofs.Try.prog R124q := fn_b (E := E124q) (A := A124q) (na := 0) (fn := Proofs.Try.f68) (S := s124q) (unpack := up124q) B124q (by kernel_rfl) (loopsOK_of (n := 1) (by kernel_rfl) fun i hi => match i, hi with | 0, _ => ⟨L124_0q, by kernel_rfl, lk124_0q⟩ | i + 1, hi => absurd hi (by omega)) (by kernel_rfl) (by kernel_rfl) (fun _ => rfl) ev124q

/-! ### giro/settle.Run -/
noncomputable def E125q : Env := ⟨Proofs.Try.prog, fun _ => false, sumsOf [R124q, R79q]⟩
def A125q : Notes := ⟨[], []⟩
theorem B125q : EnvB E125q := env_n mixed_orders ⟨F124q, F79q, trivial⟩
def as125q : List AS := [.agg [.dat true y3q, .dat true (.sl (.int .i64)), .dat true (.int .i64), .dat true (.sl (.int .i64))], .c (.dat true y7q), .c (.int .i64), .c (.bool)]
def rs125q : RS := .tup [(true, [.fro y3q, .fro (.sl (.int .i64)), .fro (.int .i64), .fro (.sl (.int .i64))]), (false, [.fro y7q]), (false, [.own y7q])]
def pk125q : (List K2q) × (List (List Int)) × (List Int) × (List (List Int)) × (List K1q) × (List K1q) → RL rs125q.cells := fun x => (x.1, x.2.1, x.2.2.1, x.2.2.2.1, x.2.2.2.2.1, x.2.2.2.2.2, ())
def up125q : RL rs125q.cells → (List K2q) × (List (List Int)) × (List Int) × (List (List Int)) × (List K1q) × (List K1q) := fun d => (d.1, d.2.1, d.2.2.1, d.2.2.2.1, d.2.2.2.2.1, d.2.2.2.2.2.1)
def s125q (k : Nat) (d : AD as125q) := settle_Run k d.1 d.2.1 d.2.2.1 d.2.2.2.1 d.2.2.2.2.1 d.2.2.2.2.2.1 d.2.2.2.2.2.2.1
def R125q : Nat × Entry := (34, fun k nm args h => entry as125q rs125q (s125q k) pk125q nm args h)
theorem ev125q (k : Nat) (d : AD as125q) : evF E125q A125q k 1000 0 Proofs.Try.f34 (absArgs as125q d).1 (absArgs as125q d).2 (outM rs125q up125q) = s125q k d := by
  obtain ⟨_, _, _, _, _, _, _, _⟩ := d
  kernel_rfl
theorem F125q : FnOK Proofs.Try.prog R125q := fn_b (E := E125q) (A := A125q) (na := 0) (fn := Proofs.Try.f34) (S := s125q) (unpack := up125q) B125q (by kernel_rfl) (loopsOK_none (by kernel_rfl)) (by kernel_rfl) (by kernel_rfl) (fun _ => rfl) ev125q

/-! ### giro/girolaw21.ring -/
noncomputable def E130q : Env := ⟨Proofs.Try.prog, fun _ => false, sumsOf []⟩
def I130_0q : Spec := ⟨[(0, .c (.int .i64)), (3, .c (.lit (.osl 1001000 none))), (4, .c (.int .i64))], [.arr true y7q], [(3, none, y7q, false)]⟩
def X0_130_0q : Spec := ⟨[(3, .c (.lit (.osl 1001000 none)))], [.arr true y7q], []⟩
def O130_0q : List (Ex × Spec) := [(.exit 0, X0_130_0q)]
def c130_0q (f : girolaw21_ring_L0T) (d : I130_0q.den) : Option girolaw21_ring_L0X := f d.1.1.1 d.1.2.2.1.1 d.2.1
def T130_0q : OutD O130_0q → girolaw21_ring_L0X := fun d => d.2.1
def e130_0q (base : Nat) (x : girolaw21_ring_L0X) (R : Type) (K : Ex → St → Option R) : Option R := K (.exit 0) (stOf base X0_130_0q (((), ()), (x, ())))
def L130_0q : LoopSum := ⟨I130_0q, O130_0q, girolaw21_ring_L0X, fun k d => c130_0q (girolaw21_ring_L0 k k) d, e130_0q⟩
def A130q : Notes := ⟨[], [(3, L130_0q)]⟩
theorem B130q : EnvB E130q := env_n mixed_orders trivial
theorem st130_0q (k : Nat) (rec : girolaw21_ring_L0T) (d : I130_0q.den) : c130_0q (girolaw21_ring_L0b k rec) d = evC E130q A130q k 1000 0 21 (loopAt (bodyOf Proofs.Try.f71) 0) (stOf (1000 + loopBase) I130_0q d) (roundK 1000 I130_0q O130_0q T130_0q (c130_0q rec)) := by
  obtain ⟨⟨⟨_, _⟩, _, ⟨_, _⟩, _⟩, ⟨_, _⟩⟩ := d
  kernel_rfl
theorem lk130_0q : LoopOK Proofs.Try.prog 1000 0 21 (loopAt (bodyOf Proofs.Try.f71) 0) L130_0q :=
  loop_b (A := A130q) (inS := I130_0q) (outs := O130_0q) B130q (loopsOK_none (by kernel_rfl)) T130_0q e130_0q (fun _ _ _ => rfl) (fun k n d => c130_0q (girolaw21_ring_L0 k n) d) (fun _ _ => rfl) (fun k n d => st130_0q k (girolaw21_ring_L0 k n) d)
def as130q : List AS := [.c (.int .i64)]
def rs130q : RS := .c (.own y7q)
def pk130q : List K1q → RL rs130q.cells := fun x => (x, ())
def up130q : RL rs130q.cells → List K1q := fun d => d.1
def s130q (k : Nat) (d : AD as130q) := girolaw21_ring k d.1
def R130q : Nat × Entry := (71, fun k nm args h => entry as130q rs130q (s130q k) pk130q nm args h)
theorem ev130q (k : Nat) (d : AD as130q) : evF E130q A130q k 1000 0 Proofs.Try.f71 (absArgs as130q d).1 (absArgs as130q d).2 (outM rs130q up130q) = s130q k d := by
  obtain ⟨_, _⟩ := d
  kernel_rfl
theorem F130q : FnOK Proofs.Try.prog R130q := fn_b (E := E130q) (A := A130q) (na := 0) (fn := Proofs.Try.f71) (S := s130q) (unpack := up130q) B130q (by kernel_rfl) (loopsOK_of (n := 1) (by kernel_rfl) fun i hi => match i, hi with | 0, _ => ⟨L130_0q, by kernel_rfl, lk130_0q⟩ | i + 1, hi => absurd hi (by omega)) (by kernel_rfl) (by kernel_rfl) (fun _ => rfl) ev130q

/-! ### giro/girolaw21.known -/
noncomputable def E131q : Env := ⟨Proofs.Try.prog, fun _ => false, sumsOf [R108q, R130q, R125q]⟩
def A131q : Notes := ⟨[], []⟩
theorem B131q : EnvB E131q := env_n mixed_orders ⟨F108q, F130q, F125q, trivial⟩
def as131q : List AS := []
def rs131q : RS := .c (.bool)
def pk131q : Bool → RL rs131q.cells := fun x => (x, ())
def up131q : RL rs131q.cells → Bool := fun d => d.1
def s131q (k : Nat) (d : AD as131q) := girolaw21_known k
def R131q : Nat × Entry := (38, fun k nm args h => entry as131q rs131q (s131q k) pk131q nm args h)
theorem ev131q (k : Nat) (d : AD as131q) : evF E131q A131q k 1000 0 Proofs.Try.f38 (absArgs as131q d).1 (absArgs as131q d).2 (outM rs131q up131q) = s131q k d := by
  kernel_rfl
theorem F131q : FnOK Proofs.Try.prog R131q := fn_b (E := E131q) (A := A131q) (na := 0) (fn := Proofs.Try.f38) (S := s131q) (unpack := up131q) B131q (by kernel_rfl) (loopsOK_none (by kernel_rfl)) (by kernel_rfl) (by kernel_rfl) (fun _ => rfl) ev131q

/-! ### giro/girolaw21.SettleAgain -/
noncomputable def E_girolaw21_SettleAgain : Env := ⟨Proofs.Try.prog, fun _ => false, sumsOf [R108q, R109q, R125q, R92q, R89q, R131q]⟩
def A_girolaw21_SettleAgain : Notes := ⟨[], []⟩
theorem B_girolaw21_SettleAgain : EnvB E_girolaw21_SettleAgain := env_n mixed_orders ⟨F108q, F109q, F125q, F92q, F89q, F131q, trivial⟩
def as_girolaw21_SettleAgain : List AS := [.c (.dat false (.int .i64)), .c (.int .i64), .c (.dat false y7q), .c (.int .i64)]
def rs_girolaw21_SettleAgain : RS := .c (.bool)
def pk_girolaw21_SettleAgain : Bool → RL rs_girolaw21_SettleAgain.cells := fun x => (x, ())
def up_girolaw21_SettleAgain : RL rs_girolaw21_SettleAgain.cells → Bool := fun d => d.1
def s_girolaw21_SettleAgain (k : Nat) (d : AD as_girolaw21_SettleAgain) := girolaw21_SettleAgain k d.1 d.2.1 d.2.2.1 d.2.2.2.1
def R_girolaw21_SettleAgain : Nat × Entry := (10, fun k nm args h => entry as_girolaw21_SettleAgain rs_girolaw21_SettleAgain (s_girolaw21_SettleAgain k) pk_girolaw21_SettleAgain nm args h)
theorem girolaw21_SettleAgain_ev (k : Nat) (d : AD as_girolaw21_SettleAgain) : evF E_girolaw21_SettleAgain A_girolaw21_SettleAgain k 1000 0 Proofs.Try.f10 (absArgs as_girolaw21_SettleAgain d).1 (absArgs as_girolaw21_SettleAgain d).2 (outM rs_girolaw21_SettleAgain up_girolaw21_SettleAgain) = s_girolaw21_SettleAgain k d := by
  obtain ⟨_, _, _, _, _⟩ := d
  kernel_rfl
theorem F_girolaw21_SettleAgain : FnOK Proofs.Try.prog R_girolaw21_SettleAgain := fn_b (E := E_girolaw21_SettleAgain) (A := A_girolaw21_SettleAgain) (na := 0) (fn := Proofs.Try.f10) (S := s_girolaw21_SettleAgain) (unpack := up_girolaw21_SettleAgain) B_girolaw21_SettleAgain (by kernel_rfl) (loopsOK_none (by kernel_rfl)) (by kernel_rfl) (by kernel_rfl) (fun _ => rfl) girolaw21_SettleAgain_ev

end Go.Ab.Gi
