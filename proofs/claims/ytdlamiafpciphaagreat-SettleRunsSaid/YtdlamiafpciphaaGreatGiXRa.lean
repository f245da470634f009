/- The shallow functions are what the program does, printed (abprint.py). -/
import Derived.Test.YtdlamiafpciphaaGreatGiXS
import Derived.Test.YtdlamiafpciphaaGreatProg
set_option linter.unusedVariables false
set_option maxRecDepth 100000
namespace Go.Ab.Gi

theorem mixed_orders : Proofs.Tryz.prog.follows .mixedOrders = true := by kernel_rfl

/-! ### giro/girolaw21.some -/
noncomputable def E0q : Env := ⟨Proofs.Tryz.prog, fun _ => false, sumsOf []⟩
def I0_0q : Spec := ⟨[(0, .c (.dat false (.int .i64))), (1, .c (.int .i64)), (4, .c (.lit (.ptr 1001000 0))), (5, .c (.lit (.ptr 1001001 0))), (6, .c (.int .i64))], [.box true [.lit .nsl, .lit .nsl, .lit .nsl, .lit .nsl], .box true [.lit (.osl 1001002 none), .lit (.osl 1001003 none), .lit (.osl 1001004 none), .lit (.osl 1001005 none)], .arr true y3q, .mat, .arr true (.int .i64), .mat], [(5, some 0, y3q, false)]⟩
def X0_0_0q : Spec := ⟨[(1, .c (.int .i64)), (4, .c (.lit (.ptr 1001000 0))), (5, .c (.lit (.ptr 1001001 0)))], [.box true [.lit .nsl, .lit .nsl, .lit .nsl, .lit .nsl], .box true [.lit (.osl 1001002 none), .lit (.osl 1001003 none), .lit (.osl 1001004 none), .lit (.osl 1001005 none)], .arr true y3q, .mat, .arr true (.int .i64), .mat], []⟩
def O0_0q : List (Ex × Spec) := [(.exit 0, X0_0_0q)]
def c0_0q (f : girolaw21_some_L0T) (d : I0_0q.den) : Option girolaw21_some_L0X := f d.1.1.1 d.1.2.1.1 d.1.2.2.2.2.1.1 d.2.2.2.1 d.2.2.2.2.1 d.2.2.2.2.2.1 d.2.2.2.2.2.2.1
def T0_0q : OutD O0_0q → girolaw21_some_L0X := fun d => (d.1.1.1, d.2.2.2.1, d.2.2.2.2.1, d.2.2.2.2.2.1, d.2.2.2.2.2.2.1)
def e0_0q (base : Nat) (x : girolaw21_some_L0X) (R : Type) (K : Ex → St → Option R) : Option R := K (.exit 0) (stOf base X0_0_0q (((x.1, ()), (), (), ()), ((), (), x.2.1, x.2.2.1, x.2.2.2.1, x.2.2.2.2, ())))
def L0_0q : LoopSum := ⟨I0_0q, O0_0q, girolaw21_some_L0X, fun k d => c0_0q (girolaw21_some_L0 k k) d, e0_0q⟩
def A0q : Notes := ⟨[11, 16], [(3, L0_0q)]⟩
theorem B0q : EnvB E0q := env_n mixed_orders trivial
theorem st0_0q (k : Nat) (rec : girolaw21_some_L0T) (d : I0_0q.den) : c0_0q (girolaw21_some_L0b k rec) d = evC E0q A0q k 1000 0 91 (loopAt (bodyOf Proofs.Tryz.f5) 0) (stOf (1000 + loopBase) I0_0q d) (roundK 1000 I0_0q O0_0q T0_0q (c0_0q rec)) := by
  obtain ⟨⟨⟨_, _⟩, ⟨_, _⟩, _, _, ⟨_, _⟩, _⟩, ⟨_, _, _, _, _, _, _⟩⟩ := d
  kernel_rfl
theorem lk0_0q : LoopOK Proofs.Tryz.prog 1000 0 91 (loopAt (bodyOf Proofs.Tryz.f5) 0) L0_0q :=
  loop_b (A := A0q) (inS := I0_0q) (outs := O0_0q) B0q (loopsOK_none (by kernel_rfl)) T0_0q e0_0q (fun _ _ _ => rfl) (fun k n d => c0_0q (girolaw21_some_L0 k n) d) (fun _ _ => rfl) (fun k n d => st0_0q k (girolaw21_some_L0 k n) d)
def as0q : List AS := [.c (.dat false (.int .i64)), .c (.int .i64)]
def rs0q : RS := .agg [.own y3q, .mat, .own (.int .i64), .mat]
def pk0q : (List K2q) × (List (List Int)) × (List Int) × (List (List Int)) → RL rs0q.cells := fun x => (x.1, x.2.1, x.2.2.1, x.2.2.2, ())
def up0q : RL rs0q.cells → (List K2q) × (List (List Int)) × (List Int) × (List (List Int)) := fun d => (d.1, d.2.1, d.2.2.1, d.2.2.2.1)
def s0q (k : Nat) (d : AD as0q) := girolaw21_some k d.1 d.2.1
def R0q : Nat × Entry := (5, fun k nm args h => entry as0q rs0q (s0q k) pk0q nm args h)
theorem ev0q (k : Nat) (d : AD as0q) : evF E0q A0q k 1000 0 Proofs.Tryz.f5 (absArgs as0q d).1 (absArgs as0q d).2 (outM rs0q up0q) = s0q k d := by
  obtain ⟨_, _, _⟩ := d
  kernel_rfl
theorem F0q : FnOK Proofs.Tryz.prog R0q := fn_b (E := E0q) (A := A0q) (na := 0) (fn := Proofs.Tryz.f5) (S := s0q) (unpack := up0q) B0q (by kernel_rfl) (loopsOK_of (n := 1) (by kernel_rfl) fun i hi => match i, hi with | 0, _ => ⟨L0_0q, by kernel_rfl, lk0_0q⟩ | i + 1, hi => absurd hi (by omega)) (by kernel_rfl) (by kernel_rfl) (fun _ => rfl) ev0q

/-! ### giro/giroref13.Find -/
noncomputable def E1q : Env := ⟨Proofs.Tryz.prog, fun _ => false, sumsOf []⟩
def I1_0q : Spec := ⟨[(0, .c (.dat false y7q)), (1, .c (.int .i64)), (5, .c (.int .i64))], [], []⟩
def X0_1_0q : Spec := ⟨[], [], []⟩
def X1_1_0q : Spec := ⟨[(4, .c (.int .i64))], [], []⟩
def O1_0q : List (Ex × Spec) := [(.exit 0, X0_1_0q), (.ret, X1_1_0q)]
def c1_0q (f : giroref13_Find_L0T) (d : I1_0q.den) : Option (Unit ⊕ Int) := f d.1.1.1 d.1.2.1.1 d.1.2.2.1.1
def T1_0q : OutD O1_0q → (Unit ⊕ Int)
 | .inl d => .inl ()
 | .inr d => .inr d.1.1.1
def e1_0q (base : Nat) (x : (Unit ⊕ Int)) (R : Type) (K : Ex → St → Option R) : Option R := match x with
 | .inl x => K (.exit 0) (stOf base X0_1_0q ((), ()))
 | .inr x => K .ret (stOf base X1_1_0q (((x, ()), ()), ()))
def L1_0q : LoopSum := ⟨I1_0q, O1_0q, (Unit ⊕ Int), fun k d => c1_0q (giroref13_Find_L0 k k) d, e1_0q⟩
def A1q : Notes := ⟨[], [(2, L1_0q)]⟩
theorem B1q : EnvB E1q := env_n mixed_orders trivial
theorem st1_0q (k : Nat) (rec : giroref13_Find_L0T) (d : I1_0q.den) : c1_0q (giroref13_Find_L0b k rec) d = evC E1q A1q k 1000 0 20 (loopAt (bodyOf Proofs.Tryz.f35) 0) (stOf (1000 + loopBase) I1_0q d) (roundK 1000 I1_0q O1_0q T1_0q (c1_0q rec)) := by
  obtain ⟨⟨⟨_, _⟩, ⟨_, _⟩, ⟨_, _⟩, _⟩, _⟩ := d
  kernel_rfl
theorem lk1_0q : LoopOK Proofs.Tryz.prog 1000 0 20 (loopAt (bodyOf Proofs.Tryz.f35) 0) L1_0q :=
  loop_b (A := A1q) (inS := I1_0q) (outs := O1_0q) B1q (loopsOK_none (by kernel_rfl)) T1_0q e1_0q (by intro o R K; rcases o with o | o <;> rfl) (fun k n d => c1_0q (giroref13_Find_L0 k n) d) (fun _ _ => rfl) (fun k n d => st1_0q k (giroref13_Find_L0 k n) d)
def as1q : List AS := [.c (.dat false y7q), .c (.int .i64)]
def rs1q : RS := .c (.int .i64)
def pk1q : Int → RL rs1q.cells := fun x => (x, ())
def up1q : RL rs1q.cells → Int := fun d => d.1
def s1q (k : Nat) (d : AD as1q) := giroref13_Find k d.1 d.2.1
def R1q : Nat × Entry := (35, fun k nm args h => entry as1q rs1q (s1q k) pk1q nm args h)
theorem ev1q (k : Nat) (d : AD as1q) : evF E1q A1q k 1000 0 Proofs.Tryz.f35 (absArgs as1q d).1 (absArgs as1q d).2 (outM rs1q up1q) = s1q k d := by
  obtain ⟨_, _, _⟩ := d
  kernel_rfl
theorem F1q : FnOK Proofs.Tryz.prog R1q := fn_b (E := E1q) (A := A1q) (na := 0) (fn := Proofs.Tryz.f35) (S := s1q) (unpack := up1q) B1q (by kernel_rfl) (loopsOK_of (n := 1) (by kernel_rfl) fun i hi => match i, hi with | 0, _ => ⟨L1_0q, by kernel_rfl, lk1_0q⟩ | i + 1, hi => absurd hi (by omega)) (by kernel_rfl) (by kernel_rfl) (fun _ => rfl) ev1q

/-! ### giro/giroref13.ahead -/
noncomputable def E2q : Env := ⟨Proofs.Tryz.prog, fun _ => false, sumsOf []⟩
def A2q : Notes := ⟨[], []⟩
theorem B2q : EnvB E2q := env_n mixed_orders trivial
def as2q : List AS := [.agg [.int .i64, .int .i64, .int .i64, .int .i64, .int .i64, .int .i64, .int .i64], .agg [.int .i64, .int .i64, .int .i64, .int .i64, .int .i64, .int .i64, .int .i64]]
def rs2q : RS := .c (.bool)
def pk2q : Bool → RL rs2q.cells := fun x => (x, ())
def up2q : RL rs2q.cells → Bool := fun d => d.1
def s2q (k : Nat) (d : AD as2q) := giroref13_ahead k d.1 d.2.1 d.2.2.1 d.2.2.2.1 d.2.2.2.2.1 d.2.2.2.2.2.1 d.2.2.2.2.2.2.1 d.2.2.2.2.2.2.2.1 d.2.2.2.2.2.2.2.2.1 d.2.2.2.2.2.2.2.2.2.1 d.2.2.2.2.2.2.2.2.2.2.1 d.2.2.2.2.2.2.2.2.2.2.2.1 d.2.2.2.2.2.2.2.2.2.2.2.2.1 d.2.2.2.2.2.2.2.2.2.2.2.2.2.1
def R2q : Nat × Entry := (61, fun k nm args h => entry as2q rs2q (s2q k) pk2q nm args h)
theorem ev2q (k : Nat) (d : AD as2q) : evF E2q A2q k 1000 0 Proofs.Tryz.f61 (absArgs as2q d).1 (absArgs as2q d).2 (outM rs2q up2q) = s2q k d := by
  obtain ⟨_, _, _, _, _, _, _, _, _, _, _, _, _, _, _⟩ := d
  kernel_rfl
theorem F2q : FnOK Proofs.Tryz.prog R2q := fn_b (E := E2q) (A := A2q) (na := 0) (fn := Proofs.Tryz.f61) (S := s2q) (unpack := up2q) B2q (by kernel_rfl) (loopsOK_none (by kernel_rfl)) (by kernel_rfl) (by kernel_rfl) (fun _ => rfl) ev2q

/-! ### giro/giroref13.behind -/
noncomputable def E3q : Env := ⟨Proofs.Tryz.prog, fun _ => false, sumsOf [R2q]⟩
def I3_0q : Spec := ⟨[(0, .c (.dat false y7q)), (3, .c (.lit (.ptr 1001000 0))), (5, .c (.int .i64))], [.box true [.int .i64, .int .i64, .int .i64, .int .i64, .int .i64, .int .i64, .int .i64]], []⟩
def X0_3_0q : Spec := ⟨[(5, .c (.int .i64))], [], []⟩
def O3_0q : List (Ex × Spec) := [(.exit 0, X0_3_0q)]
def c3_0q (f : giroref13_behind_L0T) (d : I3_0q.den) : Option Int := f d.1.1.1 d.1.2.2.1.1 d.2.1.1 d.2.1.2.1 d.2.1.2.2.1 d.2.1.2.2.2.1 d.2.1.2.2.2.2.1 d.2.1.2.2.2.2.2.1 d.2.1.2.2.2.2.2.2.1
def T3_0q : OutD O3_0q → Int := fun d => d.1.1.1
def e3_0q (base : Nat) (x : Int) (R : Type) (K : Ex → St → Option R) : Option R := K (.exit 0) (stOf base X0_3_0q (((x, ()), ()), ()))
def L3_0q : LoopSum := ⟨I3_0q, O3_0q, Int, fun k d => c3_0q (giroref13_behind_L0 k k) d, e3_0q⟩
def A3q : Notes := ⟨[], [(2, L3_0q)]⟩
theorem B3q : EnvB E3q := env_n mixed_orders ⟨F2q, trivial⟩
theorem st3_0q (k : Nat) (rec : giroref13_behind_L0T) (d : I3_0q.den) : c3_0q (giroref13_behind_L0b k rec) d = evC E3q A3q k 1000 0 21 (loopAt (bodyOf Proofs.Tryz.f37) 0) (stOf (1000 + loopBase) I3_0q d) (roundK 1000 I3_0q O3_0q T3_0q (c3_0q rec)) := by
  obtain ⟨⟨⟨_, _⟩, _, ⟨_, _⟩, _⟩, ⟨⟨_, _, _, _, _, _, _, _⟩, _⟩⟩ := d
  kernel_rfl
theorem lk3_0q : LoopOK Proofs.Tryz.prog 1000 0 21 (loopAt (bodyOf Proofs.Tryz.f37) 0) L3_0q :=
  loop_b (A := A3q) (inS := I3_0q) (outs := O3_0q) B3q (loopsOK_none (by kernel_rfl)) T3_0q e3_0q (fun _ _ _ => rfl) (fun k n d => c3_0q (giroref13_behind_L0 k n) d) (fun _ _ => rfl) (fun k n d => st3_0q k (giroref13_behind_L0 k n) d)
def as3q : List AS := [.c (.dat false y7q), .agg [.int .i64, .int .i64, .int .i64, .int .i64, .int .i64, .int .i64, .int .i64]]
def rs3q : RS := .c (.int .i64)
def pk3q : Int → RL rs3q.cells := fun x => (x, ())
def up3q : RL rs3q.cells → Int := fun d => d.1
def s3q (k : Nat) (d : AD as3q) := giroref13_behind k d.1 d.2.1 d.2.2.1 d.2.2.2.1 d.2.2.2.2.1 d.2.2.2.2.2.1 d.2.2.2.2.2.2.1 d.2.2.2.2.2.2.2.1
def R3q : Nat × Entry := (37, fun k nm args h => entry as3q rs3q (s3q k) pk3q nm args h)
theorem ev3q (k : Nat) (d : AD as3q) : evF E3q A3q k 1000 0 Proofs.Tryz.f37 (absArgs as3q d).1 (absArgs as3q d).2 (outM rs3q up3q) = s3q k d := by
  obtain ⟨_, _, _, _, _, _, _, _, _⟩ := d
  kernel_rfl
theorem F3q : FnOK Proofs.Tryz.prog R3q := fn_b (E := E3q) (A := A3q) (na := 0) (fn := Proofs.Tryz.f37) (S := s3q) (unpack := up3q) B3q (by kernel_rfl) (loopsOK_of (n := 1) (by kernel_rfl) fun i hi => match i, hi with | 0, _ => ⟨L3_0q, by kernel_rfl, lk3_0q⟩ | i + 1, hi => absurd hi (by omega)) (by kernel_rfl) (by kernel_rfl) (fun _ => rfl) ev3q

/-! ### giro/giroref13.insert -/
noncomputable def E4q : Env := ⟨Proofs.Tryz.prog, fun _ => false, sumsOf []⟩
def A4q : Notes := ⟨[], []⟩
theorem B4q : EnvB E4q := env_n mixed_orders trivial
def as4q : List AS := [.c (.dat false y7q), .c (.int .i64), .agg [.int .i64, .int .i64, .int .i64, .int .i64, .int .i64, .int .i64, .int .i64]]
def rs4q : RS := .c (.own y7q)
def pk4q : List K1q → RL rs4q.cells := fun x => (x, ())
def up4q : RL rs4q.cells → List K1q := fun d => d.1
def s4q (k : Nat) (d : AD as4q) := giroref13_insert k d.1 d.2.1 d.2.2.1 d.2.2.2.1 d.2.2.2.2.1 d.2.2.2.2.2.1 d.2.2.2.2.2.2.1 d.2.2.2.2.2.2.2.1 d.2.2.2.2.2.2.2.2.1
def R4q : Nat × Entry := (36, fun k nm args h => entry as4q rs4q (s4q k) pk4q nm args h)
theorem ev4q (k : Nat) (d : AD as4q) : evF E4q A4q k 1000 0 Proofs.Tryz.f36 (absArgs as4q d).1 (absArgs as4q d).2 (outM rs4q up4q) = s4q k d := by
  obtain ⟨_, _, _, _, _, _, _, _, _, _⟩ := d
  kernel_rfl
theorem F4q : FnOK Proofs.Tryz.prog R4q := fn_b (E := E4q) (A := A4q) (na := 0) (fn := Proofs.Tryz.f36) (S := s4q) (unpack := up4q) B4q (by kernel_rfl) (loopsOK_none (by kernel_rfl)) (by kernel_rfl) (by kernel_rfl) (fun _ => rfl) ev4q

/-! ### giro/giroref13.Put -/
noncomputable def E5q : Env := ⟨Proofs.Tryz.prog, fun _ => false, sumsOf [R1q, R3q, R4q]⟩
def A5q : Notes := ⟨[], []⟩
theorem B5q : EnvB E5q := env_n mixed_orders ⟨F1q, F3q, F4q, trivial⟩
def as5q : List AS := [.c (.dat true y7q), .agg [.int .i64, .int .i64, .int .i64, .int .i64, .int .i64, .int .i64, .int .i64]]
def rs5q : RS := .tup [(false, [.fro y7q]), (false, [.int .i64])]
def pk5q : (List K1q) × Int → RL rs5q.cells := fun x => (x.1, x.2, ())
def up5q : RL rs5q.cells → (List K1q) × Int := fun d => (d.1, d.2.1)
def s5q (k : Nat) (d : AD as5q) := giroref13_Put k d.1 d.2.1 d.2.2.1 d.2.2.2.1 d.2.2.2.2.1 d.2.2.2.2.2.1 d.2.2.2.2.2.2.1 d.2.2.2.2.2.2.2.1
def R5q : Nat × Entry := (17, fun k nm args h => entry as5q rs5q (s5q k) pk5q nm args h)
theorem ev5q (k : Nat) (d : AD as5q) : evF E5q A5q k 1000 0 Proofs.Tryz.f17 (absArgs as5q d).1 (absArgs as5q d).2 (outM rs5q up5q) = s5q k d := by
  obtain ⟨_, _, _, _, _, _, _, _, _⟩ := d
  kernel_rfl
theorem F5q : FnOK Proofs.Tryz.prog R5q := fn_b (E := E5q) (A := A5q) (na := 0) (fn := Proofs.Tryz.f17) (S := s5q) (unpack := up5q) B5q (by kernel_rfl) (loopsOK_none (by kernel_rfl)) (by kernel_rfl) (by kernel_rfl) (fun _ => rfl) ev5q

/-! ### giro/girolaw21.rowed -/
noncomputable def E6q : Env := ⟨Proofs.Tryz.prog, fun _ => false, sumsOf [R5q]⟩
def I6_0q : Spec := ⟨[(0, .c (.dat false y7q)), (3, .c (.dat true y7q)), (4, .c (.int .i64))], [], []⟩
def X0_6_0q : Spec := ⟨[(3, .c (.dat true y7q))], [], []⟩
def O6_0q : List (Ex × Spec) := [(.exit 0, X0_6_0q)]
def c6_0q (f : girolaw21_rowed_L0T) (d : I6_0q.den) : Option girolaw21_rowed_L0X := f d.1.1.1 d.1.2.1.1 d.1.2.2.1.1
def T6_0q : OutD O6_0q → girolaw21_rowed_L0X := fun d => d.1.1.1
def e6_0q (base : Nat) (x : girolaw21_rowed_L0X) (R : Type) (K : Ex → St → Option R) : Option R := K (.exit 0) (stOf base X0_6_0q (((x, ()), ()), ()))
def L6_0q : LoopSum := ⟨I6_0q, O6_0q, girolaw21_rowed_L0X, fun k d => c6_0q (girolaw21_rowed_L0 k k) d, e6_0q⟩
def A6q : Notes := ⟨[], [(3, L6_0q)]⟩
theorem B6q : EnvB E6q := env_n mixed_orders ⟨F5q, trivial⟩
theorem st6_0q (k : Nat) (rec : girolaw21_rowed_L0T) (d : I6_0q.den) : c6_0q (girolaw21_rowed_L0b k rec) d = evC E6q A6q k 1000 0 74 (loopAt (bodyOf Proofs.Tryz.f6) 0) (stOf (1000 + loopBase) I6_0q d) (roundK 1000 I6_0q O6_0q T6_0q (c6_0q rec)) := by
  obtain ⟨⟨⟨_, _⟩, ⟨_, _⟩, ⟨_, _⟩, _⟩, _⟩ := d
  kernel_rfl
theorem lk6_0q : LoopOK Proofs.Tryz.prog 1000 0 74 (loopAt (bodyOf Proofs.Tryz.f6) 0) L6_0q :=
  loop_b (A := A6q) (inS := I6_0q) (outs := O6_0q) B6q (loopsOK_none (by kernel_rfl)) T6_0q e6_0q (fun _ _ _ => rfl) (fun k n d => c6_0q (girolaw21_rowed_L0 k n) d) (fun _ _ => rfl) (fun k n d => st6_0q k (girolaw21_rowed_L0 k n) d)
def as6q : List AS := [.c (.dat false y7q)]
def rs6q : RS := .c (.fro y7q)
def pk6q : List K1q → RL rs6q.cells := fun x => (x, ())
def up6q : RL rs6q.cells → List K1q := fun d => d.1
def s6q (k : Nat) (d : AD as6q) := girolaw21_rowed k d.1
def R6q : Nat × Entry := (6, fun k nm args h => entry as6q rs6q (s6q k) pk6q nm args h)
theorem ev6q (k : Nat) (d : AD as6q) : evF E6q A6q k 1000 0 Proofs.Tryz.f6 (absArgs as6q d).1 (absArgs as6q d).2 (outM rs6q up6q) = s6q k d := by
  obtain ⟨_, _⟩ := d
  kernel_rfl
theorem F6q : FnOK Proofs.Tryz.prog R6q := fn_b (E := E6q) (A := A6q) (na := 0) (fn := Proofs.Tryz.f6) (S := s6q) (unpack := up6q) B6q (by kernel_rfl) (loopsOK_of (n := 1) (by kernel_rfl) fun i hi => match i, hi with | 0, _ => ⟨L6_0q, by kernel_rfl, lk6_0q⟩ | i + 1, hi => absurd hi (by omega)) (by kernel_rfl) (by kernel_rfl) (fun _ => rfl) ev6q

/-! ### giro/pay.Ready -/
noncomputable def E7q : Env := ⟨Proofs.Tryz.prog, fun _ => false, sumsOf []⟩
def A7q : Notes := ⟨[], []⟩
theorem B7q : EnvB E7q := env_n mixed_orders trivial
def as7q : List AS := [.agg [.int .i64, .int .i64, .int .i64, .int .i64, .int .i64, .int .i64, .int .i64], .c (.int .i64)]
def rs7q : RS := .c (.bool)
def pk7q : Bool → RL rs7q.cells := fun x => (x, ())
def up7q : RL rs7q.cells → Bool := fun d => d.1
def s7q (k : Nat) (d : AD as7q) := pay_Ready k d.1 d.2.1 d.2.2.1 d.2.2.2.1 d.2.2.2.2.1 d.2.2.2.2.2.1 d.2.2.2.2.2.2.1 d.2.2.2.2.2.2.2.1
def R7q : Nat × Entry := (70, fun k nm args h => entry as7q rs7q (s7q k) pk7q nm args h)
theorem ev7q (k : Nat) (d : AD as7q) : evF E7q A7q k 1000 0 Proofs.Tryz.f70 (absArgs as7q d).1 (absArgs as7q d).2 (outM rs7q up7q) = s7q k d := by
  obtain ⟨_, _, _, _, _, _, _, _, _⟩ := d
  kernel_rfl
theorem F7q : FnOK Proofs.Tryz.prog R7q := fn_b (E := E7q) (A := A7q) (na := 0) (fn := Proofs.Tryz.f70) (S := s7q) (unpack := up7q) B7q (by kernel_rfl) (loopsOK_none (by kernel_rfl)) (by kernel_rfl) (by kernel_rfl) (fun _ => rfl) ev7q

/-! ### giro/view.Ready$1 -/
noncomputable def E8q : Env := ⟨Proofs.Tryz.prog, fun _ => false, sumsOf [R7q]⟩
def A8q : Notes := ⟨[], []⟩
theorem B8q : EnvB E8q := env_n mixed_orders ⟨F7q, trivial⟩
def as8q : List AS := [.agg [.int .i64, .int .i64, .int .i64, .int .i64, .int .i64, .int .i64, .int .i64], .ptr [.int .i64]]
def rs8q : RS := .c (.bool)
def pk8q : Bool → RL rs8q.cells := fun x => (x, ())
def up8q : RL rs8q.cells → Bool := fun d => d.1
def s8q (k : Nat) (d : AD as8q) := view_Ready_fn1 k d.1 d.2.1 d.2.2.1 d.2.2.2.1 d.2.2.2.2.1 d.2.2.2.2.2.1 d.2.2.2.2.2.2.1 d.2.2.2.2.2.2.2.1
def R8q : Nat × Entry := (69, fun k nm args h => entry as8q rs8q (s8q k) pk8q nm args h)
theorem ev8q (k : Nat) (d : AD as8q) : evF E8q A8q k 1000 0 Proofs.Tryz.f69 (absArgs as8q d).1 (absArgs as8q d).2 (outM rs8q up8q) = s8q k d := by
  obtain ⟨_, _, _, _, _, _, _, _, _⟩ := d
  kernel_rfl
theorem F8q : FnOK Proofs.Tryz.prog R8q := fn_b (E := E8q) (A := A8q) (na := 0) (fn := Proofs.Tryz.f69) (S := s8q) (unpack := up8q) B8q (by kernel_rfl) (loopsOK_none (by kernel_rfl)) (by kernel_rfl) (by kernel_rfl) (fun _ => rfl) ev8q

/-! ### giro/view.all -/
noncomputable def E9q : Env := ⟨Proofs.Tryz.prog, fun _ => false, sumsOf [R8q]⟩
def I9_0q : Spec := ⟨[(1, .c (.lit (.fn 69 [1001000]))), (5, .c (.lit (.osl 1001001 none))), (8, .c (.dat false y7q)), (9, .c (.int .i64)), (10, .c (.int .i64))], [.robox [.int .i64], .arr true y7q], [(5, none, y7q, false)]⟩
def X0_9_0q : Spec := ⟨[(5, .c (.lit (.osl 1001000 none)))], [.arr true y7q], []⟩
def O9_0q : List (Ex × Spec) := [(.exit 0, X0_9_0q)]
def c9_0q (f : view_all__view_Ready_fn1_L0T) (d : I9_0q.den) : Option view_all__view_Ready_fn1_L0X := f d.1.2.2.1.1 d.1.2.2.2.1.1 d.1.2.2.2.2.1.1 d.2.1.1 d.2.2.1
def T9_0q : OutD O9_0q → view_all__view_Ready_fn1_L0X := fun d => d.2.1
def e9_0q (base : Nat) (x : view_all__view_Ready_fn1_L0X) (R : Type) (K : Ex → St → Option R) : Option R := K (.exit 0) (stOf base X0_9_0q (((), ()), (x, ())))
def L9_0q : LoopSum := ⟨I9_0q, O9_0q, view_all__view_Ready_fn1_L0X, fun k d => c9_0q (view_all__view_Ready_fn1_L0 k k) d, e9_0q⟩
def A9q : Notes := ⟨[], [(3, L9_0q)]⟩
theorem B9q : EnvB E9q := env_n mixed_orders ⟨F8q, trivial⟩
theorem st9_0q (k : Nat) (rec : view_all__view_Ready_fn1_L0T) (d : I9_0q.den) : c9_0q (view_all__view_Ready_fn1_L0b k rec) d = evC E9q A9q k 1000 0 23 (loopAt (bodyOf Proofs.Tryz.f67) 0) (stOf (1000 + loopBase) I9_0q d) (roundK 1000 I9_0q O9_0q T9_0q (c9_0q rec)) := by
  obtain ⟨⟨_, _, ⟨_, _⟩, ⟨_, _⟩, ⟨_, _⟩, _⟩, ⟨⟨_, _⟩, _, _⟩⟩ := d
  kernel_rfl
theorem lk9_0q : LoopOK Proofs.Tryz.prog 1000 0 23 (loopAt (bodyOf Proofs.Tryz.f67) 0) L9_0q :=
  loop_b (A := A9q) (inS := I9_0q) (outs := O9_0q) B9q (loopsOK_none (by kernel_rfl)) T9_0q e9_0q (fun _ _ _ => rfl) (fun k n d => c9_0q (view_all__view_Ready_fn1_L0 k n) d) (fun _ _ => rfl) (fun k n d => st9_0q k (view_all__view_Ready_fn1_L0 k n) d)
def as9q : List AS := [.c (.dat false y7q), .fn 69 [[.int .i64]]]
def rs9q : RS := .c (.own y7q)
def pk9q : List K1q → RL rs9q.cells := fun x => (x, ())
def up9q : RL rs9q.cells → List K1q := fun d => d.1
def s9q (k : Nat) (d : AD as9q) := view_all__view_Ready_fn1 k d.1 d.2.1
def R9q : Nat × Entry := (67, fun k nm args h => entry as9q rs9q (s9q k) pk9q nm args h)
theorem ev9q (k : Nat) (d : AD as9q) : evF E9q A9q k 1000 0 Proofs.Tryz.f67 (absArgs as9q d).1 (absArgs as9q d).2 (outM rs9q up9q) = s9q k d := by
  obtain ⟨_, _, _⟩ := d
  kernel_rfl
theorem F9q : FnOK Proofs.Tryz.prog R9q := fn_b (E := E9q) (A := A9q) (na := 0) (fn := Proofs.Tryz.f67) (S := s9q) (unpack := up9q) B9q (by kernel_rfl) (loopsOK_of (n := 1) (by kernel_rfl) fun i hi => match i, hi with | 0, _ => ⟨L9_0q, by kernel_rfl, lk9_0q⟩ | i + 1, hi => absurd hi (by omega)) (by kernel_rfl) (by kernel_rfl) (fun _ => rfl) ev9q

/-! ### giro/view.Ready -/
noncomputable def E10q : Env := ⟨Proofs.Tryz.prog, fun _ => false, sumsOf [R9q]⟩
def A10q : Notes := ⟨[], []⟩
theorem B10q : EnvB E10q := env_n mixed_orders ⟨F9q, trivial⟩
def as10q : List AS := [.c (.dat false y7q), .c (.int .i64)]
def rs10q : RS := .c (.own y7q)
def pk10q : List K1q → RL rs10q.cells := fun x => (x, ())
def up10q : RL rs10q.cells → List K1q := fun d => d.1
def s10q (k : Nat) (d : AD as10q) := view_Ready k d.1 d.2.1
def R10q : Nat × Entry := (42, fun k nm args h => entry as10q rs10q (s10q k) pk10q nm args h)
theorem ev10q (k : Nat) (d : AD as10q) : evF E10q A10q k 1000 0 Proofs.Tryz.f42 (absArgs as10q d).1 (absArgs as10q d).2 (outM rs10q up10q) = s10q k d := by
  obtain ⟨_, _, _⟩ := d
  kernel_rfl
theorem F10q : FnOK Proofs.Tryz.prog R10q := fn_b (E := E10q) (A := A10q) (na := 0) (fn := Proofs.Tryz.f42) (S := s10q) (unpack := up10q) B10q (by kernel_rfl) (loopsOK_none (by kernel_rfl)) (by kernel_rfl) (by kernel_rfl) (fun _ => rfl) ev10q

/-! ### giro/view.May$1$1 -/
noncomputable def E11q : Env := ⟨Proofs.Tryz.prog, fun _ => false, sumsOf []⟩
def A11q : Notes := ⟨[], []⟩
theorem B11q : EnvB E11q := env_n mixed_orders trivial
def as11q : List AS := [.agg [.int .i64, .int .i64, .int .i64, .int .i64, .int .i64, .int .i64, .int .i64], .ptr [.int .i64, .int .i64, .int .i64, .int .i64, .int .i64, .int .i64, .int .i64]]
def rs11q : RS := .c (.bool)
def pk11q : Bool → RL rs11q.cells := fun x => (x, ())
def up11q : RL rs11q.cells → Bool := fun d => d.1
def s11q (k : Nat) (d : AD as11q) := view_May_fn1_fn1 k d.1 d.2.1 d.2.2.1 d.2.2.2.1 d.2.2.2.2.1 d.2.2.2.2.2.1 d.2.2.2.2.2.2.1 d.2.2.2.2.2.2.2.1 d.2.2.2.2.2.2.2.2.1 d.2.2.2.2.2.2.2.2.2.1 d.2.2.2.2.2.2.2.2.2.2.1 d.2.2.2.2.2.2.2.2.2.2.2.1 d.2.2.2.2.2.2.2.2.2.2.2.2.1 d.2.2.2.2.2.2.2.2.2.2.2.2.2.1
def R11q : Nat × Entry := (117, fun k nm args h => entry as11q rs11q (s11q k) pk11q nm args h)
theorem ev11q (k : Nat) (d : AD as11q) : evF E11q A11q k 1000 0 Proofs.Tryz.f117 (absArgs as11q d).1 (absArgs as11q d).2 (outM rs11q up11q) = s11q k d := by
  obtain ⟨_, _, _, _, _, _, _, _, _, _, _, _, _, _, _⟩ := d
  kernel_rfl
theorem F11q : FnOK Proofs.Tryz.prog R11q := fn_b (E := E11q) (A := A11q) (na := 0) (fn := Proofs.Tryz.f117) (S := s11q) (unpack := up11q) B11q (by kernel_rfl) (loopsOK_none (by kernel_rfl)) (by kernel_rfl) (by kernel_rfl) (fun _ => rfl) ev11q

/-! ### slices.IndexFunc[[]giro/api.Pay,giro/api.Pay] -/
noncomputable def E12q : Env := ⟨Proofs.Tryz.prog, fun _ => false, sumsOf [R11q]⟩
def I12_0q : Spec := ⟨[(0, .c (.dat false y7q)), (1, .c (.lit (.fn 117 [1001000]))), (7, .c (.int .i64)), (8, .c (.int .i64))], [.robox [.int .i64, .int .i64, .int .i64, .int .i64, .int .i64, .int .i64, .int .i64]], []⟩
def X0_12_0q : Spec := ⟨[], [], []⟩
def X1_12_0q : Spec := ⟨[(4, .c (.int .i64))], [], []⟩
def O12_0q : List (Ex × Spec) := [(.exit 0, X0_12_0q), (.ret, X1_12_0q)]
def c12_0q (f : slices_IndexFunc_Pay__view_May_fn1_fn1_L0T) (d : I12_0q.den) : Option (Unit ⊕ Int) := f d.1.1.1 d.1.2.2.1.1 d.1.2.2.2.1.1 d.2.1.1 d.2.1.2.1 d.2.1.2.2.1 d.2.1.2.2.2.1 d.2.1.2.2.2.2.1 d.2.1.2.2.2.2.2.1 d.2.1.2.2.2.2.2.2.1
def T12_0q : OutD O12_0q → (Unit ⊕ Int)
 | .inl d => .inl ()
 | .inr d => .inr d.1.1.1
def e12_0q (base : Nat) (x : (Unit ⊕ Int)) (R : Type) (K : Ex → St → Option R) : Option R := match x with
 | .inl x => K (.exit 0) (stOf base X0_12_0q ((), ()))
 | .inr x => K .ret (stOf base X1_12_0q (((x, ()), ()), ()))
def L12_0q : LoopSum := ⟨I12_0q, O12_0q, (Unit ⊕ Int), fun k d => c12_0q (slices_IndexFunc_Pay__view_May_fn1_fn1_L0 k k) d, e12_0q⟩
def A12q : Notes := ⟨[], [(2, L12_0q)]⟩
theorem B12q : EnvB E12q := env_n mixed_orders ⟨F11q, trivial⟩
theorem st12_0q (k : Nat) (rec : slices_IndexFunc_Pay__view_May_fn1_fn1_L0T) (d : I12_0q.den) : c12_0q (slices_IndexFunc_Pay__view_May_fn1_fn1_L0b k rec) d = evC E12q A12q k 1000 0 19 (loopAt (bodyOf Proofs.Tryz.f95) 0) (stOf (1000 + loopBase) I12_0q d) (roundK 1000 I12_0q O12_0q T12_0q (c12_0q rec)) := by
  obtain ⟨⟨⟨_, _⟩, _, ⟨_, _⟩, ⟨_, _⟩, _⟩, ⟨⟨_, _, _, _, _, _, _, _⟩, _⟩⟩ := d
  kernel_rfl
theorem lk12_0q : LoopOK Proofs.Tryz.prog 1000 0 19 (loopAt (bodyOf Proofs.Tryz.f95) 0) L12_0q :=
  loop_b (A := A12q) (inS := I12_0q) (outs := O12_0q) B12q (loopsOK_none (by kernel_rfl)) T12_0q e12_0q (by intro o R K; rcases o with o | o <;> rfl) (fun k n d => c12_0q (slices_IndexFunc_Pay__view_May_fn1_fn1_L0 k n) d) (fun _ _ => rfl) (fun k n d => st12_0q k (slices_IndexFunc_Pay__view_May_fn1_fn1_L0 k n) d)
def as12q : List AS := [.c (.dat false y7q), .fn 117 [[.int .i64, .int .i64, .int .i64, .int .i64, .int .i64, .int .i64, .int .i64]]]
def rs12q : RS := .c (.int .i64)
def pk12q : Int → RL rs12q.cells := fun x => (x, ())
def up12q : RL rs12q.cells → Int := fun d => d.1
def s12q (k : Nat) (d : AD as12q) := slices_IndexFunc_Pay__view_May_fn1_fn1 k d.1 d.2.1 d.2.2.1 d.2.2.2.1 d.2.2.2.2.1 d.2.2.2.2.2.1 d.2.2.2.2.2.2.1 d.2.2.2.2.2.2.2.1
def R12q : Nat × Entry := (95, fun k nm args h => entry as12q rs12q (s12q k) pk12q nm args h)
theorem ev12q (k : Nat) (d : AD as12q) : evF E12q A12q k 1000 0 Proofs.Tryz.f95 (absArgs as12q d).1 (absArgs as12q d).2 (outM rs12q up12q) = s12q k d := by
  obtain ⟨_, _, _, _, _, _, _, _, _⟩ := d
  kernel_rfl
theorem F12q : FnOK Proofs.Tryz.prog R12q := fn_b (E := E12q) (A := A12q) (na := 0) (fn := Proofs.Tryz.f95) (S := s12q) (unpack := up12q) B12q (by kernel_rfl) (loopsOK_of (n := 1) (by kernel_rfl) fun i hi => match i, hi with | 0, _ => ⟨L12_0q, by kernel_rfl, lk12_0q⟩ | i + 1, hi => absurd hi (by omega)) (by kernel_rfl) (by kernel_rfl) (fun _ => rfl) ev12q

/-! ### slices.ContainsFunc[[]giro/api.Pay,giro/api.Pay] -/
noncomputable def E13q : Env := ⟨Proofs.Tryz.prog, fun _ => false, sumsOf [R12q]⟩
def A13q : Notes := ⟨[], []⟩
theorem B13q : EnvB E13q := env_n mixed_orders ⟨F12q, trivial⟩
def as13q : List AS := [.c (.dat false y7q), .fn 117 [[.int .i64, .int .i64, .int .i64, .int .i64, .int .i64, .int .i64, .int .i64]]]
def rs13q : RS := .c (.bool)
def pk13q : Bool → RL rs13q.cells := fun x => (x, ())
def up13q : RL rs13q.cells → Bool := fun d => d.1
def s13q (k : Nat) (d : AD as13q) := slices_ContainsFunc_Pay__view_May_fn1_fn1 k d.1 d.2.1 d.2.2.1 d.2.2.2.1 d.2.2.2.2.1 d.2.2.2.2.2.1 d.2.2.2.2.2.2.1 d.2.2.2.2.2.2.2.1
def R13q : Nat × Entry := (73, fun k nm args h => entry as13q rs13q (s13q k) pk13q nm args h)
theorem ev13q (k : Nat) (d : AD as13q) : evF E13q A13q k 1000 0 Proofs.Tryz.f73 (absArgs as13q d).1 (absArgs as13q d).2 (outM rs13q up13q) = s13q k d := by
  obtain ⟨_, _, _, _, _, _, _, _, _⟩ := d
  kernel_rfl
theorem F13q : FnOK Proofs.Tryz.prog R13q := fn_b (E := E13q) (A := A13q) (na := 0) (fn := Proofs.Tryz.f73) (S := s13q) (unpack := up13q) B13q (by kernel_rfl) (loopsOK_none (by kernel_rfl)) (by kernel_rfl) (by kernel_rfl) (fun _ => rfl) ev13q

/-! ### giro/view.May$1 -/
noncomputable def E14q : Env := ⟨Proofs.Tryz.prog, fun _ => false, sumsOf [R13q]⟩
def A14q : Notes := ⟨[], []⟩
theorem B14q : EnvB E14q := env_n mixed_orders ⟨F13q, trivial⟩
def as14q : List AX := [.agg [.int .i64, .int .i64, .int .i64, .int .i64, .int .i64, .int .i64, .int .i64], .ptr true [.map], .ptr false [.p (.dat false y7q)]]
def rs14q : RS := .c (.bool)
def os14q : List (List RC) := [[.map]]
def pk14q : Bool × (List (Int × Bool)) → RL (rs14q.cells ++ os14q.flatten) := fun x => (x.1, x.2, ())
def up14q : RL (rs14q.cells ++ os14q.flatten) → Bool × (List (Int × Bool)) := fun d => (d.1, d.2.1)
def s14q (k : Nat) (d : XD as14q) := view_May_fn1 k d.1 d.2.1 d.2.2.1 d.2.2.2.1 d.2.2.2.2.1 d.2.2.2.2.2.1 d.2.2.2.2.2.2.1 d.2.2.2.2.2.2.2.1 d.2.2.2.2.2.2.2.2.1
def R14q : Nat × Entry := (116, fun k nm args h => entryX as14q rs14q os14q (s14q k) pk14q nm args h)
theorem ev14q (k : Nat) (d : XD as14q) : evF E14q A14q k 1000 3 Proofs.Tryz.f116 (absArgsX as14q d).1 (absArgsX as14q d).2 (outXM as14q rs14q os14q up14q) = s14q k d := by
  obtain ⟨_, _, _, _, _, _, _, _, _, _⟩ := d
  kernel_rfl
theorem F14q : FnOK Proofs.Tryz.prog R14q := fn_x (E := E14q) (A := A14q) (na := 3) (fn := Proofs.Tryz.f116) (S := s14q) (unpack := up14q) B14q (by kernel_rfl) (loopsOK_none (by kernel_rfl)) (by kernel_rfl) (by kernel_rfl) (fun _ => rfl) (by kernel_rfl) ev14q

/-! ### giro/view.all -/
noncomputable def E15q : Env := ⟨Proofs.Tryz.prog, fun _ => false, sumsOf [R14q]⟩
def I15_0q : Spec := ⟨[(1, .c (.lit (.fn 116 [1001000, 1001002]))), (5, .c (.lit (.osl 1001003 none))), (8, .c (.dat false y7q)), (9, .c (.int .i64)), (10, .c (.int .i64))], [.box true [.lit (.map 1001001)], .imap, .robox [.dat false y7q], .arr true y7q], [(5, none, y7q, false)]⟩
def X0_15_0q : Spec := ⟨[(1, .c (.lit (.fn 116 [1001000, 1001002]))), (5, .c (.lit (.osl 1001003 none)))], [.box true [.lit (.map 1001001)], .imap, .robox [.dat false y7q], .arr true y7q], []⟩
def O15_0q : List (Ex × Spec) := [(.exit 0, X0_15_0q)]
def c15_0q (f : view_all__view_May_fn1_L0T) (d : I15_0q.den) : Option view_all__view_May_fn1_L0X := f d.1.2.2.1.1 d.1.2.2.2.1.1 d.1.2.2.2.2.1.1 d.2.2.1 d.2.2.2.1.1 d.2.2.2.2.1
def T15_0q : OutD O15_0q → view_all__view_May_fn1_L0X := fun d => (d.2.2.1, d.2.2.2.1.1, d.2.2.2.2.1)
def e15_0q (base : Nat) (x : view_all__view_May_fn1_L0X) (R : Type) (K : Ex → St → Option R) : Option R := K (.exit 0) (stOf base X0_15_0q (((), (), ()), ((), x.1, (x.2.1, ()), x.2.2, ())))
def L15_0q : LoopSum := ⟨I15_0q, O15_0q, view_all__view_May_fn1_L0X, fun k d => c15_0q (view_all__view_May_fn1_L0 k k) d, e15_0q⟩
def A15q : Notes := ⟨[], [(3, L15_0q)]⟩
theorem B15q : EnvB E15q := env_n mixed_orders ⟨F14q, trivial⟩
theorem st15_0q (k : Nat) (rec : view_all__view_May_fn1_L0T) (d : I15_0q.den) : c15_0q (view_all__view_May_fn1_L0b k rec) d = evC E15q A15q k 1000 2 23 (loopAt (bodyOf Proofs.Tryz.f67) 0) (stOf (1000 + loopBase) I15_0q d) (roundK 1000 I15_0q O15_0q T15_0q (c15_0q rec)) := by
  obtain ⟨⟨_, _, ⟨_, _⟩, ⟨_, _⟩, ⟨_, _⟩, _⟩, ⟨_, _, ⟨_, _⟩, _, _⟩⟩ := d
  kernel_rfl
theorem lk15_0q : LoopOK Proofs.Tryz.prog 1000 2 23 (loopAt (bodyOf Proofs.Tryz.f67) 0) L15_0q :=
  loop_b (A := A15q) (inS := I15_0q) (outs := O15_0q) B15q (loopsOK_none (by kernel_rfl)) T15_0q e15_0q (fun _ _ _ => rfl) (fun k n d => c15_0q (view_all__view_May_fn1_L0 k n) d) (fun _ _ => rfl) (fun k n d => st15_0q k (view_all__view_May_fn1_L0 k n) d)
def as15q : List AX := [.c (.p (.dat false y7q)), .fn 116 [(true, [.map]), (false, [.p (.dat false y7q)])]]
def rs15q : RS := .c (.own y7q)
def os15q : List (List RC) := [[.map]]
def pk15q : (List K1q) × (List (Int × Bool)) → RL (rs15q.cells ++ os15q.flatten) := fun x => (x.1, x.2, ())
def up15q : RL (rs15q.cells ++ os15q.flatten) → (List K1q) × (List (Int × Bool)) := fun d => (d.1, d.2.1)
def s15q (k : Nat) (d : XD as15q) := view_all__view_May_fn1 k d.1 d.2.1 d.2.2.1
def R15q : Nat × Entry := (67, fun k nm args h => entryX as15q rs15q os15q (s15q k) pk15q nm args h)
theorem ev15q (k : Nat) (d : XD as15q) : evF E15q A15q k 1000 2 Proofs.Tryz.f67 (absArgsX as15q d).1 (absArgsX as15q d).2 (outXM as15q rs15q os15q up15q) = s15q k d := by
  obtain ⟨_, _, _, _⟩ := d
  kernel_rfl
theorem F15q : FnOK Proofs.Tryz.prog R15q := fn_x (E := E15q) (A := A15q) (na := 2) (fn := Proofs.Tryz.f67) (S := s15q) (unpack := up15q) B15q (by kernel_rfl) (loopsOK_of (n := 1) (by kernel_rfl) fun i hi => match i, hi with | 0, _ => ⟨L15_0q, by kernel_rfl, lk15_0q⟩ | i + 1, hi => absurd hi (by omega)) (by kernel_rfl) (by kernel_rfl) (fun _ => rfl) (by kernel_rfl) ev15q

/-! ### giro/view.May -/
noncomputable def E16q : Env := ⟨Proofs.Tryz.prog, fun _ => false, sumsOf [R10q, R15q]⟩
def A16q : Notes := ⟨[], []⟩
theorem B16q : EnvB E16q := env_n mixed_orders ⟨F10q, F15q, trivial⟩
def as16q : List AS := [.c (.dat false y7q), .c (.int .i64)]
def rs16q : RS := .c (.own y7q)
def pk16q : List K1q → RL rs16q.cells := fun x => (x, ())
def up16q : RL rs16q.cells → List K1q := fun d => d.1
def s16q (k : Nat) (d : AD as16q) := view_May k d.1 d.2.1
def R16q : Nat × Entry := (89, fun k nm args h => entry as16q rs16q (s16q k) pk16q nm args h)
theorem ev16q (k : Nat) (d : AD as16q) : evF E16q A16q k 1000 0 Proofs.Tryz.f89 (absArgs as16q d).1 (absArgs as16q d).2 (outM rs16q up16q) = s16q k d := by
  obtain ⟨_, _, _⟩ := d
  kernel_rfl
theorem F16q : FnOK Proofs.Tryz.prog R16q := fn_b (E := E16q) (A := A16q) (na := 0) (fn := Proofs.Tryz.f89) (S := s16q) (unpack := up16q) B16q (by kernel_rfl) (loopsOK_none (by kernel_rfl)) (by kernel_rfl) (by kernel_rfl) (fun _ => rfl) ev16q

/-! ### giro/fits.May -/
noncomputable def E17q : Env := ⟨Proofs.Tryz.prog, fun _ => false, sumsOf []⟩
def A17q : Notes := ⟨[], []⟩
theorem B17q : EnvB E17q := env_n mixed_orders trivial
def as17q : List AS := [.agg [.dat false y3q, .dat false (.sl (.int .i64)), .dat false (.int .i64), .dat false (.sl (.int .i64))], .agg [.int .i64, .int .i64, .int .i64, .int .i64, .int .i64, .int .i64, .int .i64]]
def rs17q : RS := .c (.bool)
def pk17q : Bool → RL rs17q.cells := fun x => (x, ())
def up17q : RL rs17q.cells → Bool := fun d => d.1
def s17q (k : Nat) (d : AD as17q) := fits_May k d.1 d.2.1 d.2.2.1 d.2.2.2.1 d.2.2.2.2.1 d.2.2.2.2.2.1 d.2.2.2.2.2.2.1 d.2.2.2.2.2.2.2.1 d.2.2.2.2.2.2.2.2.1 d.2.2.2.2.2.2.2.2.2.1 d.2.2.2.2.2.2.2.2.2.2.1
def R17q : Nat × Entry := (72, fun k nm args h => entry as17q rs17q (s17q k) pk17q nm args h)
theorem ev17q (k : Nat) (d : AD as17q) : evF E17q A17q k 1000 0 Proofs.Tryz.f72 (absArgs as17q d).1 (absArgs as17q d).2 (outM rs17q up17q) = s17q k d := by
  obtain ⟨_, _, _, _, _, _, _, _, _, _, _, _⟩ := d
  kernel_rfl
theorem F17q : FnOK Proofs.Tryz.prog R17q := fn_b (E := E17q) (A := A17q) (na := 0) (fn := Proofs.Tryz.f72) (S := s17q) (unpack := up17q) B17q (by kernel_rfl) (loopsOK_none (by kernel_rfl)) (by kernel_rfl) (by kernel_rfl) (fun _ => rfl) ev17q

/-! ### giro/fits.Fits$1 -/
noncomputable def E18q : Env := ⟨Proofs.Tryz.prog, fun _ => false, sumsOf [R17q]⟩
def A18q : Notes := ⟨[], []⟩
theorem B18q : EnvB E18q := env_n mixed_orders ⟨F17q, trivial⟩
def as18q : List AS := [.agg [.int .i64, .int .i64, .int .i64, .int .i64, .int .i64, .int .i64, .int .i64], .ptr [.dat false y3q, .dat false (.sl (.int .i64)), .dat false (.int .i64), .dat false (.sl (.int .i64))]]
def rs18q : RS := .c (.bool)
def pk18q : Bool → RL rs18q.cells := fun x => (x, ())
def up18q : RL rs18q.cells → Bool := fun d => d.1
def s18q (k : Nat) (d : AD as18q) := fits_Fits_fn1 k d.1 d.2.1 d.2.2.1 d.2.2.2.1 d.2.2.2.2.1 d.2.2.2.2.2.1 d.2.2.2.2.2.2.1 d.2.2.2.2.2.2.2.1 d.2.2.2.2.2.2.2.2.1 d.2.2.2.2.2.2.2.2.2.1 d.2.2.2.2.2.2.2.2.2.2.1
def R18q : Nat × Entry := (118, fun k nm args h => entry as18q rs18q (s18q k) pk18q nm args h)
theorem ev18q (k : Nat) (d : AD as18q) : evF E18q A18q k 1000 0 Proofs.Tryz.f118 (absArgs as18q d).1 (absArgs as18q d).2 (outM rs18q up18q) = s18q k d := by
  obtain ⟨_, _, _, _, _, _, _, _, _, _, _, _⟩ := d
  kernel_rfl
theorem F18q : FnOK Proofs.Tryz.prog R18q := fn_b (E := E18q) (A := A18q) (na := 0) (fn := Proofs.Tryz.f118) (S := s18q) (unpack := up18q) B18q (by kernel_rfl) (loopsOK_none (by kernel_rfl)) (by kernel_rfl) (by kernel_rfl) (fun _ => rfl) ev18q

/-! ### slices.IndexFunc[[]giro/api.Pay,giro/api.Pay] -/
noncomputable def E19q : Env := ⟨Proofs.Tryz.prog, fun _ => false, sumsOf [R18q]⟩
def I19_0q : Spec := ⟨[(0, .c (.dat false y7q)), (1, .c (.lit (.fn 118 [1001000]))), (7, .c (.int .i64)), (8, .c (.int .i64))], [.robox [.dat false y3q, .dat false (.sl (.int .i64)), .dat false (.int .i64), .dat false (.sl (.int .i64))]], []⟩
def X0_19_0q : Spec := ⟨[], [], []⟩
def X1_19_0q : Spec := ⟨[(4, .c (.int .i64))], [], []⟩
def O19_0q : List (Ex × Spec) := [(.exit 0, X0_19_0q), (.ret, X1_19_0q)]
def c19_0q (f : slices_IndexFunc_Pay__fits_Fits_fn1_L0T) (d : I19_0q.den) : Option (Unit ⊕ Int) := f d.1.1.1 d.1.2.2.1.1 d.1.2.2.2.1.1 d.2.1.1 d.2.1.2.1 d.2.1.2.2.1 d.2.1.2.2.2.1
def T19_0q : OutD O19_0q → (Unit ⊕ Int)
 | .inl d => .inl ()
 | .inr d => .inr d.1.1.1
def e19_0q (base : Nat) (x : (Unit ⊕ Int)) (R : Type) (K : Ex → St → Option R) : Option R := match x with
 | .inl x => K (.exit 0) (stOf base X0_19_0q ((), ()))
 | .inr x => K .ret (stOf base X1_19_0q (((x, ()), ()), ()))
def L19_0q : LoopSum := ⟨I19_0q, O19_0q, (Unit ⊕ Int), fun k d => c19_0q (slices_IndexFunc_Pay__fits_Fits_fn1_L0 k k) d, e19_0q⟩
def A19q : Notes := ⟨[], [(2, L19_0q)]⟩
theorem B19q : EnvB E19q := env_n mixed_orders ⟨F18q, trivial⟩
theorem st19_0q (k : Nat) (rec : slices_IndexFunc_Pay__fits_Fits_fn1_L0T) (d : I19_0q.den) : c19_0q (slices_IndexFunc_Pay__fits_Fits_fn1_L0b k rec) d = evC E19q A19q k 1000 0 19 (loopAt (bodyOf Proofs.Tryz.f95) 0) (stOf (1000 + loopBase) I19_0q d) (roundK 1000 I19_0q O19_0q T19_0q (c19_0q rec)) := by
  obtain ⟨⟨⟨_, _⟩, _, ⟨_, _⟩, ⟨_, _⟩, _⟩, ⟨⟨_, _, _, _, _⟩, _⟩⟩ := d
  kernel_rfl
theorem lk19_0q : LoopOK Proofs.Tryz.prog 1000 0 19 (loopAt (bodyOf Proofs.Tryz.f95) 0) L19_0q :=
  loop_b (A := A19q) (inS := I19_0q) (outs := O19_0q) B19q (loopsOK_none (by kernel_rfl)) T19_0q e19_0q (by intro o R K; rcases o with o | o <;> rfl) (fun k n d => c19_0q (slices_IndexFunc_Pay__fits_Fits_fn1_L0 k n) d) (fun _ _ => rfl) (fun k n d => st19_0q k (slices_IndexFunc_Pay__fits_Fits_fn1_L0 k n) d)
def as19q : List AS := [.c (.dat false y7q), .fn 118 [[.dat false y3q, .dat false (.sl (.int .i64)), .dat false (.int .i64), .dat false (.sl (.int .i64))]]]
def rs19q : RS := .c (.int .i64)
def pk19q : Int → RL rs19q.cells := fun x => (x, ())
def up19q : RL rs19q.cells → Int := fun d => d.1
def s19q (k : Nat) (d : AD as19q) := slices_IndexFunc_Pay__fits_Fits_fn1 k d.1 d.2.1 d.2.2.1 d.2.2.2.1 d.2.2.2.2.1
def R19q : Nat × Entry := (95, fun k nm args h => entry as19q rs19q (s19q k) pk19q nm args h)
theorem ev19q (k : Nat) (d : AD as19q) : evF E19q A19q k 1000 0 Proofs.Tryz.f95 (absArgs as19q d).1 (absArgs as19q d).2 (outM rs19q up19q) = s19q k d := by
  obtain ⟨_, _, _, _, _, _⟩ := d
  kernel_rfl
theorem F19q : FnOK Proofs.Tryz.prog R19q := fn_b (E := E19q) (A := A19q) (na := 0) (fn := Proofs.Tryz.f95) (S := s19q) (unpack := up19q) B19q (by kernel_rfl) (loopsOK_of (n := 1) (by kernel_rfl) fun i hi => match i, hi with | 0, _ => ⟨L19_0q, by kernel_rfl, lk19_0q⟩ | i + 1, hi => absurd hi (by omega)) (by kernel_rfl) (by kernel_rfl) (fun _ => rfl) ev19q

/-! ### slices.ContainsFunc[[]giro/api.Pay,giro/api.Pay] -/
noncomputable def E20q : Env := ⟨Proofs.Tryz.prog, fun _ => false, sumsOf [R19q]⟩
def A20q : Notes := ⟨[], []⟩
theorem B20q : EnvB E20q := env_n mixed_orders ⟨F19q, trivial⟩
def as20q : List AS := [.c (.dat false y7q), .fn 118 [[.dat false y3q, .dat false (.sl (.int .i64)), .dat false (.int .i64), .dat false (.sl (.int .i64))]]]
def rs20q : RS := .c (.bool)
def pk20q : Bool → RL rs20q.cells := fun x => (x, ())
def up20q : RL rs20q.cells → Bool := fun d => d.1
def s20q (k : Nat) (d : AD as20q) := slices_ContainsFunc_Pay__fits_Fits_fn1 k d.1 d.2.1 d.2.2.1 d.2.2.2.1 d.2.2.2.2.1
def R20q : Nat × Entry := (73, fun k nm args h => entry as20q rs20q (s20q k) pk20q nm args h)
theorem ev20q (k : Nat) (d : AD as20q) : evF E20q A20q k 1000 0 Proofs.Tryz.f73 (absArgs as20q d).1 (absArgs as20q d).2 (outM rs20q up20q) = s20q k d := by
  obtain ⟨_, _, _, _, _, _⟩ := d
  kernel_rfl
theorem F20q : FnOK Proofs.Tryz.prog R20q := fn_b (E := E20q) (A := A20q) (na := 0) (fn := Proofs.Tryz.f73) (S := s20q) (unpack := up20q) B20q (by kernel_rfl) (loopsOK_none (by kernel_rfl)) (by kernel_rfl) (by kernel_rfl) (fun _ => rfl) ev20q

/-! ### giro/lim.isSize -/
noncomputable def E21q : Env := ⟨Proofs.Tryz.prog, fun _ => false, sumsOf []⟩
def A21q : Notes := ⟨[], []⟩
theorem B21q : EnvB E21q := env_n mixed_orders trivial
def as21q : List AS := [.c (.int .i64)]
def rs21q : RS := .c (.bool)
def pk21q : Bool → RL rs21q.cells := fun x => (x, ())
def up21q : RL rs21q.cells → Bool := fun d => d.1
def s21q (k : Nat) (d : AD as21q) := lim_isSize k d.1
def R21q : Nat × Entry := (129, fun k nm args h => entry as21q rs21q (s21q k) pk21q nm args h)
theorem ev21q (k : Nat) (d : AD as21q) : evF E21q A21q k 1000 0 Proofs.Tryz.f129 (absArgs as21q d).1 (absArgs as21q d).2 (outM rs21q up21q) = s21q k d := by
  obtain ⟨_, _⟩ := d
  kernel_rfl
theorem F21q : FnOK Proofs.Tryz.prog R21q := fn_b (E := E21q) (A := A21q) (na := 0) (fn := Proofs.Tryz.f129) (S := s21q) (unpack := up21q) B21q (by kernel_rfl) (loopsOK_none (by kernel_rfl)) (by kernel_rfl) (by kernel_rfl) (fun _ => rfl) ev21q

/-! ### giro/lim.Row -/
noncomputable def E22q : Env := ⟨Proofs.Tryz.prog, fun _ => false, sumsOf [R21q]⟩
def I22_0q : Spec := ⟨[(1, .c (.int .i64)), (5, .c (.lit (.osl 1001000 none))), (13, .c (.int .i64)), (14, .c (.int .i64))], [.arr true (.int .i64)], []⟩
def X0_22_0q : Spec := ⟨[(5, .c (.lit (.osl 1001000 none)))], [.arr true (.int .i64)], []⟩
def O22_0q : List (Ex × Spec) := [(.exit 0, X0_22_0q)]
def c22_0q (f : lim_Row_L0T) (d : I22_0q.den) : Option (List Int) := f d.1.1.1 d.1.2.2.1.1 d.1.2.2.2.1.1 d.2.1
def T22_0q : OutD O22_0q → (List Int) := fun d => d.2.1
def e22_0q (base : Nat) (x : (List Int)) (R : Type) (K : Ex → St → Option R) : Option R := K (.exit 0) (stOf base X0_22_0q (((), ()), (x, ())))
def L22_0q : LoopSum := ⟨I22_0q, O22_0q, (List Int), fun k d => c22_0q (lim_Row_L0 k k) d, e22_0q⟩
def A22q : Notes := ⟨[], [(5, L22_0q)]⟩
theorem B22q : EnvB E22q := env_n mixed_orders ⟨F21q, trivial⟩
theorem st22_0q (k : Nat) (rec : lim_Row_L0T) (d : I22_0q.den) : c22_0q (lim_Row_L0b k rec) d = evC E22q A22q k 1000 0 23 (loopAt (bodyOf Proofs.Tryz.f119) 0) (stOf (1000 + loopBase) I22_0q d) (roundK 1000 I22_0q O22_0q T22_0q (c22_0q rec)) := by
  obtain ⟨⟨⟨_, _⟩, _, ⟨_, _⟩, ⟨_, _⟩, _⟩, ⟨_, _⟩⟩ := d
  kernel_rfl
theorem lk22_0q : LoopOK Proofs.Tryz.prog 1000 0 23 (loopAt (bodyOf Proofs.Tryz.f119) 0) L22_0q :=
  loop_b (A := A22q) (inS := I22_0q) (outs := O22_0q) B22q (loopsOK_none (by kernel_rfl)) T22_0q e22_0q (fun _ _ _ => rfl) (fun k n d => c22_0q (lim_Row_L0 k n) d) (fun _ _ => rfl) (fun k n d => st22_0q k (lim_Row_L0 k n) d)
def as22q : List AS := [.c (.int .i64), .c (.int .i64)]
def rs22q : RS := .c (.own (.int .i64))
def pk22q : List Int → RL rs22q.cells := fun x => (x, ())
def up22q : RL rs22q.cells → List Int := fun d => d.1
def s22q (k : Nat) (d : AD as22q) := lim_Row k d.1 d.2.1
def R22q : Nat × Entry := (119, fun k nm args h => entry as22q rs22q (s22q k) pk22q nm args h)
theorem ev22q (k : Nat) (d : AD as22q) : evF E22q A22q k 1000 0 Proofs.Tryz.f119 (absArgs as22q d).1 (absArgs as22q d).2 (outM rs22q up22q) = s22q k d := by
  obtain ⟨_, _, _⟩ := d
  kernel_rfl
theorem F22q : FnOK Proofs.Tryz.prog R22q := fn_b (E := E22q) (A := A22q) (na := 0) (fn := Proofs.Tryz.f119) (S := s22q) (unpack := up22q) B22q (by kernel_rfl) (loopsOK_of (n := 1) (by kernel_rfl) fun i hi => match i, hi with | 0, _ => ⟨L22_0q, by kernel_rfl, lk22_0q⟩ | i + 1, hi => absurd hi (by omega)) (by kernel_rfl) (by kernel_rfl) (fun _ => rfl) ev22q

/-! ### giro/lim.Square -/
noncomputable def E23q : Env := ⟨Proofs.Tryz.prog, fun _ => false, sumsOf [R21q, R22q]⟩
def I23_0q : Spec := ⟨[(0, .c (.int .i64)), (1, .c (.int .i64)), (5, .c (.lit (.osl 1001000 none))), (13, .c (.int .i64)), (14, .c (.int .i64))], [.mat], []⟩
def X0_23_0q : Spec := ⟨[(5, .c (.lit (.osl 1001000 none)))], [.mat], []⟩
def O23_0q : List (Ex × Spec) := [(.exit 0, X0_23_0q)]
def c23_0q (f : lim_Square_L0T) (d : I23_0q.den) : Option (List (List Int)) := f d.1.1.1 d.1.2.1.1 d.1.2.2.2.1.1 d.1.2.2.2.2.1.1 d.2.1
def T23_0q : OutD O23_0q → (List (List Int)) := fun d => d.2.1
def e23_0q (base : Nat) (x : (List (List Int))) (R : Type) (K : Ex → St → Option R) : Option R := K (.exit 0) (stOf base X0_23_0q (((), ()), (x, ())))
def L23_0q : LoopSum := ⟨I23_0q, O23_0q, (List (List Int)), fun k d => c23_0q (lim_Square_L0 k k) d, e23_0q⟩
def A23q : Notes := ⟨[11], [(5, L23_0q)]⟩
theorem B23q : EnvB E23q := env_n mixed_orders ⟨F21q, F22q, trivial⟩
theorem st23_0q (k : Nat) (rec : lim_Square_L0T) (d : I23_0q.den) : c23_0q (lim_Square_L0b k rec) d = evC E23q A23q k 1000 0 25 (loopAt (bodyOf Proofs.Tryz.f120) 0) (stOf (1000 + loopBase) I23_0q d) (roundK 1000 I23_0q O23_0q T23_0q (c23_0q rec)) := by
  obtain ⟨⟨⟨_, _⟩, ⟨_, _⟩, _, ⟨_, _⟩, ⟨_, _⟩, _⟩, ⟨_, _⟩⟩ := d
  kernel_rfl
theorem lk23_0q : LoopOK Proofs.Tryz.prog 1000 0 25 (loopAt (bodyOf Proofs.Tryz.f120) 0) L23_0q :=
  loop_b (A := A23q) (inS := I23_0q) (outs := O23_0q) B23q (loopsOK_none (by kernel_rfl)) T23_0q e23_0q (fun _ _ _ => rfl) (fun k n d => c23_0q (lim_Square_L0 k n) d) (fun _ _ => rfl) (fun k n d => st23_0q k (lim_Square_L0 k n) d)
def as23q : List AS := [.c (.int .i64), .c (.int .i64)]
def rs23q : RS := .c (.mat)
def pk23q : List (List Int) → RL rs23q.cells := fun x => (x, ())
def up23q : RL rs23q.cells → List (List Int) := fun d => d.1
def s23q (k : Nat) (d : AD as23q) := lim_Square k d.1 d.2.1
def R23q : Nat × Entry := (120, fun k nm args h => entry as23q rs23q (s23q k) pk23q nm args h)
theorem ev23q (k : Nat) (d : AD as23q) : evF E23q A23q k 1000 0 Proofs.Tryz.f120 (absArgs as23q d).1 (absArgs as23q d).2 (outM rs23q up23q) = s23q k d := by
  obtain ⟨_, _, _⟩ := d
  kernel_rfl
theorem F23q : FnOK Proofs.Tryz.prog R23q := fn_b (E := E23q) (A := A23q) (na := 0) (fn := Proofs.Tryz.f120) (S := s23q) (unpack := up23q) B23q (by kernel_rfl) (loopsOK_of (n := 1) (by kernel_rfl) fun i hi => match i, hi with | 0, _ => ⟨L23_0q, by kernel_rfl, lk23_0q⟩ | i + 1, hi => absurd hi (by omega)) (by kernel_rfl) (by kernel_rfl) (fun _ => rfl) ev23q

/-! ### giro/fits.moved -/
noncomputable def E24q : Env := ⟨Proofs.Tryz.prog, fun _ => false, sumsOf [R22q, R23q]⟩
def I24_0q : Spec := ⟨[(4, .c (.lit (.ptr 1001000 0))), (5, .c (.lit (.ptr 1001001 0))), (15, .c (.dat false y7q)), (16, .c (.int .i64)), (17, .c (.int .i64))], [.box true [.lit .nsl, .lit .nsl, .lit .nsl], .box true [.lit (.osl 1001002 none), .lit (.osl 1001003 none), .lit (.osl 1001004 none)], .arr true (.int .i64), .arr true (.int .i64), .mat], []⟩
def X0_24_0q : Spec := ⟨[(4, .c (.lit (.ptr 1001000 0))), (5, .c (.lit (.ptr 1001001 0)))], [.box true [.lit .nsl, .lit .nsl, .lit .nsl], .box true [.lit (.osl 1001002 none), .lit (.osl 1001003 none), .lit (.osl 1001004 none)], .arr true (.int .i64), .arr true (.int .i64), .mat], []⟩
def O24_0q : List (Ex × Spec) := [(.exit 0, X0_24_0q)]
def c24_0q (f : fits_moved_L0T) (d : I24_0q.den) : Option fits_moved_L0X := f d.1.2.2.1.1 d.1.2.2.2.1.1 d.1.2.2.2.2.1.1 d.2.2.2.1 d.2.2.2.2.1 d.2.2.2.2.2.1
def T24_0q : OutD O24_0q → fits_moved_L0X := fun d => (d.2.2.2.1, d.2.2.2.2.1, d.2.2.2.2.2.1)
def e24_0q (base : Nat) (x : fits_moved_L0X) (R : Type) (K : Ex → St → Option R) : Option R := K (.exit 0) (stOf base X0_24_0q (((), (), ()), ((), (), x.1, x.2.1, x.2.2, ())))
def L24_0q : LoopSum := ⟨I24_0q, O24_0q, fits_moved_L0X, fun k d => c24_0q (fits_moved_L0 k k) d, e24_0q⟩
def A24q : Notes := ⟨[], [(3, L24_0q)]⟩
theorem B24q : EnvB E24q := env_n mixed_orders ⟨F22q, F23q, trivial⟩
theorem st24_0q (k : Nat) (rec : fits_moved_L0T) (d : I24_0q.den) : c24_0q (fits_moved_L0b k rec) d = evC E24q A24q k 1000 0 84 (loopAt (bodyOf Proofs.Tryz.f92) 0) (stOf (1000 + loopBase) I24_0q d) (roundK 1000 I24_0q O24_0q T24_0q (c24_0q rec)) := by
  obtain ⟨⟨_, _, ⟨_, _⟩, ⟨_, _⟩, ⟨_, _⟩, _⟩, ⟨_, _, _, _, _, _⟩⟩ := d
  kernel_rfl
theorem lk24_0q : LoopOK Proofs.Tryz.prog 1000 0 84 (loopAt (bodyOf Proofs.Tryz.f92) 0) L24_0q :=
  loop_b (A := A24q) (inS := I24_0q) (outs := O24_0q) B24q (loopsOK_none (by kernel_rfl)) T24_0q e24_0q (fun _ _ _ => rfl) (fun k n d => c24_0q (fits_moved_L0 k n) d) (fun _ _ => rfl) (fun k n d => st24_0q k (fits_moved_L0 k n) d)
def as24q : List AS := [.c (.int .i64), .c (.dat false y7q)]
def rs24q : RS := .agg [.own (.int .i64), .own (.int .i64), .mat]
def pk24q : (List Int) × (List Int) × (List (List Int)) → RL rs24q.cells := fun x => (x.1, x.2.1, x.2.2, ())
def up24q : RL rs24q.cells → (List Int) × (List Int) × (List (List Int)) := fun d => (d.1, d.2.1, d.2.2.1)
def s24q (k : Nat) (d : AD as24q) := fits_moved k d.1 d.2.1
def R24q : Nat × Entry := (92, fun k nm args h => entry as24q rs24q (s24q k) pk24q nm args h)
theorem ev24q (k : Nat) (d : AD as24q) : evF E24q A24q k 1000 0 Proofs.Tryz.f92 (absArgs as24q d).1 (absArgs as24q d).2 (outM rs24q up24q) = s24q k d := by
  obtain ⟨_, _, _⟩ := d
  kernel_rfl
theorem F24q : FnOK Proofs.Tryz.prog R24q := fn_b (E := E24q) (A := A24q) (na := 0) (fn := Proofs.Tryz.f92) (S := s24q) (unpack := up24q) B24q (by kernel_rfl) (loopsOK_of (n := 1) (by kernel_rfl) fun i hi => match i, hi with | 0, _ => ⟨L24_0q, by kernel_rfl, lk24_0q⟩ | i + 1, hi => absurd hi (by omega)) (by kernel_rfl) (by kernel_rfl) (fun _ => rfl) ev24q

/-! ### giro/fits.Short$1 -/
noncomputable def E25q : Env := ⟨Proofs.Tryz.prog, fun _ => false, sumsOf []⟩
def A25q : Notes := ⟨[], []⟩
theorem B25q : EnvB E25q := env_n mixed_orders trivial
def as25q : List AS := [.agg [.int .i64, .int .i64, .int .i64, .int .i64, .int .i64, .int .i64, .int .i64], .ptr [.int .i64]]
def rs25q : RS := .c (.bool)
def pk25q : Bool → RL rs25q.cells := fun x => (x, ())
def up25q : RL rs25q.cells → Bool := fun d => d.1
def s25q (k : Nat) (d : AD as25q) := fits_Short_fn1 k d.1 d.2.1 d.2.2.1 d.2.2.2.1 d.2.2.2.2.1 d.2.2.2.2.2.1 d.2.2.2.2.2.2.1 d.2.2.2.2.2.2.2.1
def R25q : Nat × Entry := (93, fun k nm args h => entry as25q rs25q (s25q k) pk25q nm args h)
theorem ev25q (k : Nat) (d : AD as25q) : evF E25q A25q k 1000 0 Proofs.Tryz.f93 (absArgs as25q d).1 (absArgs as25q d).2 (outM rs25q up25q) = s25q k d := by
  obtain ⟨_, _, _, _, _, _, _, _, _⟩ := d
  kernel_rfl
theorem F25q : FnOK Proofs.Tryz.prog R25q := fn_b (E := E25q) (A := A25q) (na := 0) (fn := Proofs.Tryz.f93) (S := s25q) (unpack := up25q) B25q (by kernel_rfl) (loopsOK_none (by kernel_rfl)) (by kernel_rfl) (by kernel_rfl) (fun _ => rfl) ev25q

/-! ### slices.IndexFunc[[]giro/api.Pay,giro/api.Pay] -/
noncomputable def E26q : Env := ⟨Proofs.Tryz.prog, fun _ => false, sumsOf [R25q]⟩
def I26_0q : Spec := ⟨[(0, .c (.dat false y7q)), (1, .c (.lit (.fn 93 [1001000]))), (7, .c (.int .i64)), (8, .c (.int .i64))], [.robox [.int .i64]], []⟩
def X0_26_0q : Spec := ⟨[], [], []⟩
def X1_26_0q : Spec := ⟨[(4, .c (.int .i64))], [], []⟩
def O26_0q : List (Ex × Spec) := [(.exit 0, X0_26_0q), (.ret, X1_26_0q)]
def c26_0q (f : slices_IndexFunc_Pay__fits_Short_fn1_L0T) (d : I26_0q.den) : Option (Unit ⊕ Int) := f d.1.1.1 d.1.2.2.1.1 d.1.2.2.2.1.1 d.2.1.1
def T26_0q : OutD O26_0q → (Unit ⊕ Int)
 | .inl d => .inl ()
 | .inr d => .inr d.1.1.1
def e26_0q (base : Nat) (x : (Unit ⊕ Int)) (R : Type) (K : Ex → St → Option R) : Option R := match x with
 | .inl x => K (.exit 0) (stOf base X0_26_0q ((), ()))
 | .inr x => K .ret (stOf base X1_26_0q (((x, ()), ()), ()))
def L26_0q : LoopSum := ⟨I26_0q, O26_0q, (Unit ⊕ Int), fun k d => c26_0q (slices_IndexFunc_Pay__fits_Short_fn1_L0 k k) d, e26_0q⟩
def A26q : Notes := ⟨[], [(2, L26_0q)]⟩
theorem B26q : EnvB E26q := env_n mixed_orders ⟨F25q, trivial⟩
theorem st26_0q (k : Nat) (rec : slices_IndexFunc_Pay__fits_Short_fn1_L0T) (d : I26_0q.den) : c26_0q (slices_IndexFunc_Pay__fits_Short_fn1_L0b k rec) d = evC E26q A26q k 1000 0 19 (loopAt (bodyOf Proofs.Tryz.f95) 0) (stOf (1000 + loopBase) I26_0q d) (roundK 1000 I26_0q O26_0q T26_0q (c26_0q rec)) := by
  obtain ⟨⟨⟨_, _⟩, _, ⟨_, _⟩, ⟨_, _⟩, _⟩, ⟨⟨_, _⟩, _⟩⟩ := d
  kernel_rfl
theorem lk26_0q : LoopOK Proofs.Tryz.prog 1000 0 19 (loopAt (bodyOf Proofs.Tryz.f95) 0) L26_0q :=
  loop_b (A := A26q) (inS := I26_0q) (outs := O26_0q) B26q (loopsOK_none (by kernel_rfl)) T26_0q e26_0q (by intro o R K; rcases o with o | o <;> rfl) (fun k n d => c26_0q (slices_IndexFunc_Pay__fits_Short_fn1_L0 k n) d) (fun _ _ => rfl) (fun k n d => st26_0q k (slices_IndexFunc_Pay__fits_Short_fn1_L0 k n) d)
def as26q : List AS := [.c (.dat false y7q), .fn 93 [[.int .i64]]]
def rs26q : RS := .c (.int .i64)
def pk26q : Int → RL rs26q.cells := fun x => (x, ())
def up26q : RL rs26q.cells → Int := fun d => d.1
def s26q (k : Nat) (d : AD as26q) := slices_IndexFunc_Pay__fits_Short_fn1 k d.1 d.2.1
def R26q : Nat × Entry := (95, fun k nm args h => entry as26q rs26q (s26q k) pk26q nm args h)
theorem ev26q (k : Nat) (d : AD as26q) : evF E26q A26q k 1000 0 Proofs.Tryz.f95 (absArgs as26q d).1 (absArgs as26q d).2 (outM rs26q up26q) = s26q k d := by
  obtain ⟨_, _, _⟩ := d
  kernel_rfl
theorem F26q : FnOK Proofs.Tryz.prog R26q := fn_b (E := E26q) (A := A26q) (na := 0) (fn := Proofs.Tryz.f95) (S := s26q) (unpack := up26q) B26q (by kernel_rfl) (loopsOK_of (n := 1) (by kernel_rfl) fun i hi => match i, hi with | 0, _ => ⟨L26_0q, by kernel_rfl, lk26_0q⟩ | i + 1, hi => absurd hi (by omega)) (by kernel_rfl) (by kernel_rfl) (fun _ => rfl) ev26q

/-! ### slices.ContainsFunc[[]giro/api.Pay,giro/api.Pay] -/
noncomputable def E27q : Env := ⟨Proofs.Tryz.prog, fun _ => false, sumsOf [R26q]⟩
def A27q : Notes := ⟨[], []⟩
theorem B27q : EnvB E27q := env_n mixed_orders ⟨F26q, trivial⟩
def as27q : List AS := [.c (.dat false y7q), .fn 93 [[.int .i64]]]
def rs27q : RS := .c (.bool)
def pk27q : Bool → RL rs27q.cells := fun x => (x, ())
def up27q : RL rs27q.cells → Bool := fun d => d.1
def s27q (k : Nat) (d : AD as27q) := slices_ContainsFunc_Pay__fits_Short_fn1 k d.1 d.2.1
def R27q : Nat × Entry := (73, fun k nm args h => entry as27q rs27q (s27q k) pk27q nm args h)
theorem ev27q (k : Nat) (d : AD as27q) : evF E27q A27q k 1000 0 Proofs.Tryz.f73 (absArgs as27q d).1 (absArgs as27q d).2 (outM rs27q up27q) = s27q k d := by
  obtain ⟨_, _, _⟩ := d
  kernel_rfl
theorem F27q : FnOK Proofs.Tryz.prog R27q := fn_b (E := E27q) (A := A27q) (na := 0) (fn := Proofs.Tryz.f73) (S := s27q) (unpack := up27q) B27q (by kernel_rfl) (loopsOK_none (by kernel_rfl)) (by kernel_rfl) (by kernel_rfl) (fun _ => rfl) ev27q

/-! ### giro/lim.Net -/
noncomputable def E28q : Env := ⟨Proofs.Tryz.prog, fun _ => false, sumsOf []⟩
def I28_0q : Spec := ⟨[(5, .c (.int .i64)), (12, .c (.dat false (.int .i64))), (13, .c (.int .i64)), (14, .c (.int .i64))], [], []⟩
def X0_28_0q : Spec := ⟨[(5, .c (.int .i64))], [], []⟩
def O28_0q : List (Ex × Spec) := [(.exit 0, X0_28_0q)]
def c28_0q (f : Int → List Int → Int → Int → Option Int) (d : I28_0q.den) : Option Int := f d.1.1.1 d.1.2.1.1 d.1.2.2.1.1 d.1.2.2.2.1.1
def T28_0q : OutD O28_0q → Int := fun d => d.1.1.1
def e28_0q (base : Nat) (x : Int) (R : Type) (K : Ex → St → Option R) : Option R := K (.exit 0) (stOf base X0_28_0q (((x, ()), ()), ()))
def L28_0q : LoopSum := ⟨I28_0q, O28_0q, Int, fun k d => c28_0q (lim_Net_L0 k k) d, e28_0q⟩
def A28q : Notes := ⟨[], [(3, L28_0q)]⟩
theorem B28q : EnvB E28q := env_n mixed_orders trivial
theorem st28_0q (k : Nat) (rec : Int → List Int → Int → Int → Option Int) (d : I28_0q.den) : c28_0q (lim_Net_L0b k rec) d = evC E28q A28q k 1000 0 23 (loopAt (bodyOf Proofs.Tryz.f121) 0) (stOf (1000 + loopBase) I28_0q d) (roundK 1000 I28_0q O28_0q T28_0q (c28_0q rec)) := by
  obtain ⟨⟨⟨_, _⟩, ⟨_, _⟩, ⟨_, _⟩, ⟨_, _⟩, _⟩, _⟩ := d
  kernel_rfl
theorem lk28_0q : LoopOK Proofs.Tryz.prog 1000 0 23 (loopAt (bodyOf Proofs.Tryz.f121) 0) L28_0q :=
  loop_b (A := A28q) (inS := I28_0q) (outs := O28_0q) B28q (loopsOK_none (by kernel_rfl)) T28_0q e28_0q (fun _ _ _ => rfl) (fun k n d => c28_0q (lim_Net_L0 k n) d) (fun _ _ => rfl) (fun k n d => st28_0q k (lim_Net_L0 k n) d)
def as28q : List AS := [.agg [.dat false y3q, .dat false (.sl (.int .i64)), .dat false (.int .i64), .dat false (.sl (.int .i64))], .c (.int .i64)]
def rs28q : RS := .c (.int .i64)
def pk28q : Int → RL rs28q.cells := fun x => (x, ())
def up28q : RL rs28q.cells → Int := fun d => d.1
def s28q (k : Nat) (d : AD as28q) := lim_Net k d.1 d.2.1 d.2.2.1 d.2.2.2.1 d.2.2.2.2.1
def R28q : Nat × Entry := (121, fun k nm args h => entry as28q rs28q (s28q k) pk28q nm args h)
theorem ev28q (k : Nat) (d : AD as28q) : evF E28q A28q k 1000 0 Proofs.Tryz.f121 (absArgs as28q d).1 (absArgs as28q d).2 (outM rs28q up28q) = s28q k d := by
  obtain ⟨_, _, _, _, _, _⟩ := d
  kernel_rfl
theorem F28q : FnOK Proofs.Tryz.prog R28q := fn_b (E := E28q) (A := A28q) (na := 0) (fn := Proofs.Tryz.f121) (S := s28q) (unpack := up28q) B28q (by kernel_rfl) (loopsOK_of (n := 1) (by kernel_rfl) fun i hi => match i, hi with | 0, _ => ⟨L28_0q, by kernel_rfl, lk28_0q⟩ | i + 1, hi => absurd hi (by omega)) (by kernel_rfl) (by kernel_rfl) (fun _ => rfl) ev28q

/-! ### giro/fits.over -/
noncomputable def E29q : Env := ⟨Proofs.Tryz.prog, fun _ => false, sumsOf []⟩
def A29q : Notes := ⟨[], []⟩
theorem B29q : EnvB E29q := env_n mixed_orders trivial
def as29q : List AS := [.c (.int .i64), .c (.int .i64)]
def rs29q : RS := .c (.bool)
def pk29q : Bool → RL rs29q.cells := fun x => (x, ())
def up29q : RL rs29q.cells → Bool := fun d => d.1
def s29q (k : Nat) (d : AD as29q) := fits_over k d.1 d.2.1
def R29q : Nat × Entry := (122, fun k nm args h => entry as29q rs29q (s29q k) pk29q nm args h)
theorem ev29q (k : Nat) (d : AD as29q) : evF E29q A29q k 1000 0 Proofs.Tryz.f122 (absArgs as29q d).1 (absArgs as29q d).2 (outM rs29q up29q) = s29q k d := by
  obtain ⟨_, _, _⟩ := d
  kernel_rfl
theorem F29q : FnOK Proofs.Tryz.prog R29q := fn_b (E := E29q) (A := A29q) (na := 0) (fn := Proofs.Tryz.f122) (S := s29q) (unpack := up29q) B29q (by kernel_rfl) (loopsOK_none (by kernel_rfl)) (by kernel_rfl) (by kernel_rfl) (fun _ => rfl) ev29q

/-! ### giro/acct.Kept -/
noncomputable def E30q : Env := ⟨Proofs.Tryz.prog, fun _ => false, sumsOf []⟩
def A30q : Notes := ⟨[], []⟩
theorem B30q : EnvB E30q := env_n mixed_orders trivial
def as30q : List AS := [.agg [.int .i64, .int .i64, .int .i64], .c (.int .i64)]
def rs30q : RS := .c (.int .i64)
def pk30q : Int → RL rs30q.cells := fun x => (x, ())
def up30q : RL rs30q.cells → Int := fun d => d.1
def s30q (k : Nat) (d : AD as30q) := acct_Kept k d.1 d.2.1 d.2.2.1 d.2.2.2.1
def R30q : Nat × Entry := (75, fun k nm args h => entry as30q rs30q (s30q k) pk30q nm args h)
theorem ev30q (k : Nat) (d : AD as30q) : evF E30q A30q k 1000 0 Proofs.Tryz.f75 (absArgs as30q d).1 (absArgs as30q d).2 (outM rs30q up30q) = s30q k d := by
  obtain ⟨_, _, _, _, _⟩ := d
  kernel_rfl
theorem F30q : FnOK Proofs.Tryz.prog R30q := fn_b (E := E30q) (A := A30q) (na := 0) (fn := Proofs.Tryz.f75) (S := s30q) (unpack := up30q) B30q (by kernel_rfl) (loopsOK_none (by kernel_rfl)) (by kernel_rfl) (by kernel_rfl) (fun _ => rfl) ev30q

/-! ### (giro/fits.move).isShort$1 -/
noncomputable def E31q : Env := ⟨Proofs.Tryz.prog, fun _ => false, sumsOf [R30q, R29q]⟩
def A31q : Notes := ⟨[], []⟩
theorem B31q : EnvB E31q := env_n mixed_orders ⟨F30q, F29q, trivial⟩
def as31q : List AS := [.agg [.int .i64, .int .i64, .int .i64, .int .i64, .int .i64, .int .i64, .int .i64], .ptr [.int .i64], .ptr [.int .i64, .int .i64, .int .i64], .ptr [.dat false (.int .i64), .dat false (.int .i64), .dat false (.sl (.int .i64))], .ptr [.int .i64], .ptr [.dat false y3q, .dat false (.sl (.int .i64)), .dat false (.int .i64), .dat false (.sl (.int .i64))]]
def rs31q : RS := .c (.bool)
def pk31q : Bool → RL rs31q.cells := fun x => (x, ())
def up31q : RL rs31q.cells → Bool := fun d => d.1
def s31q (k : Nat) (d : AD as31q) := fits_move_isShort_fn1 k d.1 d.2.1 d.2.2.1 d.2.2.2.1 d.2.2.2.2.1 d.2.2.2.2.2.1 d.2.2.2.2.2.2.1 d.2.2.2.2.2.2.2.1 d.2.2.2.2.2.2.2.2.1 d.2.2.2.2.2.2.2.2.2.1 d.2.2.2.2.2.2.2.2.2.2.1 d.2.2.2.2.2.2.2.2.2.2.2.1 d.2.2.2.2.2.2.2.2.2.2.2.2.1 d.2.2.2.2.2.2.2.2.2.2.2.2.2.1 d.2.2.2.2.2.2.2.2.2.2.2.2.2.2.1 d.2.2.2.2.2.2.2.2.2.2.2.2.2.2.2.1 d.2.2.2.2.2.2.2.2.2.2.2.2.2.2.2.2.1 d.2.2.2.2.2.2.2.2.2.2.2.2.2.2.2.2.2.1 d.2.2.2.2.2.2.2.2.2.2.2.2.2.2.2.2.2.2.1
def R31q : Nat × Entry := (123, fun k nm args h => entry as31q rs31q (s31q k) pk31q nm args h)
theorem ev31q (k : Nat) (d : AD as31q) : evF E31q A31q k 1000 0 Proofs.Tryz.f123 (absArgs as31q d).1 (absArgs as31q d).2 (outM rs31q up31q) = s31q k d := by
  obtain ⟨_, _, _, _, _, _, _, _, _, _, _, _, _, _, _, _, _, _, _, _⟩ := d
  kernel_rfl
theorem F31q : FnOK Proofs.Tryz.prog R31q := fn_b (E := E31q) (A := A31q) (na := 0) (fn := Proofs.Tryz.f123) (S := s31q) (unpack := up31q) B31q (by kernel_rfl) (loopsOK_none (by kernel_rfl)) (by kernel_rfl) (by kernel_rfl) (fun _ => rfl) ev31q

/-! ### slices.IndexFunc[[]giro/api.Pay,giro/api.Pay] -/
noncomputable def E32q : Env := ⟨Proofs.Tryz.prog, fun _ => false, sumsOf [R31q]⟩
def I32_0q : Spec := ⟨[(0, .c (.dat false y7q)), (1, .c (.lit (.fn 123 [1001000, 1001001, 1001002, 1001003, 1001004]))), (7, .c (.int .i64)), (8, .c (.int .i64))], [.robox [.int .i64], .robox [.int .i64, .int .i64, .int .i64], .robox [.dat false (.int .i64), .dat false (.int .i64), .dat false (.sl (.int .i64))], .robox [.int .i64], .robox [.dat false y3q, .dat false (.sl (.int .i64)), .dat false (.int .i64), .dat false (.sl (.int .i64))]], []⟩
def X0_32_0q : Spec := ⟨[], [], []⟩
def X1_32_0q : Spec := ⟨[(4, .c (.int .i64))], [], []⟩
def O32_0q : List (Ex × Spec) := [(.exit 0, X0_32_0q), (.ret, X1_32_0q)]
def c32_0q (f : slices_IndexFunc_Pay__fits_move_isShort_fn1_L0T) (d : I32_0q.den) : Option (Unit ⊕ Int) := f d.1.1.1 d.1.2.2.1.1 d.1.2.2.2.1.1 d.2.1.1 d.2.2.1.1 d.2.2.1.2.1 d.2.2.1.2.2.1 d.2.2.2.1.1 d.2.2.2.1.2.1 d.2.2.2.1.2.2.1 d.2.2.2.2.1.1 d.2.2.2.2.2.1.1 d.2.2.2.2.2.1.2.1 d.2.2.2.2.2.1.2.2.1 d.2.2.2.2.2.1.2.2.2.1
def T32_0q : OutD O32_0q → (Unit ⊕ Int)
 | .inl d => .inl ()
 | .inr d => .inr d.1.1.1
def e32_0q (base : Nat) (x : (Unit ⊕ Int)) (R : Type) (K : Ex → St → Option R) : Option R := match x with
 | .inl x => K (.exit 0) (stOf base X0_32_0q ((), ()))
 | .inr x => K .ret (stOf base X1_32_0q (((x, ()), ()), ()))
def L32_0q : LoopSum := ⟨I32_0q, O32_0q, (Unit ⊕ Int), fun k d => c32_0q (slices_IndexFunc_Pay__fits_move_isShort_fn1_L0 k k) d, e32_0q⟩
def A32q : Notes := ⟨[], [(2, L32_0q)]⟩
theorem B32q : EnvB E32q := env_n mixed_orders ⟨F31q, trivial⟩
theorem st32_0q (k : Nat) (rec : slices_IndexFunc_Pay__fits_move_isShort_fn1_L0T) (d : I32_0q.den) : c32_0q (slices_IndexFunc_Pay__fits_move_isShort_fn1_L0b k rec) d = evC E32q A32q k 1000 0 19 (loopAt (bodyOf Proofs.Tryz.f95) 0) (stOf (1000 + loopBase) I32_0q d) (roundK 1000 I32_0q O32_0q T32_0q (c32_0q rec)) := by
  obtain ⟨⟨⟨_, _⟩, _, ⟨_, _⟩, ⟨_, _⟩, _⟩, ⟨⟨_, _⟩, ⟨_, _, _, _⟩, ⟨_, _, _, _⟩, ⟨_, _⟩, ⟨_, _, _, _, _⟩, _⟩⟩ := d
  kernel_rfl
theorem lk32_0q : LoopOK Proofs.Tryz.prog 1000 0 19 (loopAt (bodyOf Proofs.Tryz.f95) 0) L32_0q :=
  loop_b (A := A32q) (inS := I32_0q) (outs := O32_0q) B32q (loopsOK_none (by kernel_rfl)) T32_0q e32_0q (by intro o R K; rcases o with o | o <;> rfl) (fun k n d => c32_0q (slices_IndexFunc_Pay__fits_move_isShort_fn1_L0 k n) d) (fun _ _ => rfl) (fun k n d => st32_0q k (slices_IndexFunc_Pay__fits_move_isShort_fn1_L0 k n) d)
def as32q : List AS := [.c (.dat false y7q), .fn 123 [[.int .i64], [.int .i64, .int .i64, .int .i64], [.dat false (.int .i64), .dat false (.int .i64), .dat false (.sl (.int .i64))], [.int .i64], [.dat false y3q, .dat false (.sl (.int .i64)), .dat false (.int .i64), .dat false (.sl (.int .i64))]]]
def rs32q : RS := .c (.int .i64)
def pk32q : Int → RL rs32q.cells := fun x => (x, ())
def up32q : RL rs32q.cells → Int := fun d => d.1
def s32q (k : Nat) (d : AD as32q) := slices_IndexFunc_Pay__fits_move_isShort_fn1 k d.1 d.2.1 d.2.2.1 d.2.2.2.1 d.2.2.2.2.1 d.2.2.2.2.2.1 d.2.2.2.2.2.2.1 d.2.2.2.2.2.2.2.1 d.2.2.2.2.2.2.2.2.1 d.2.2.2.2.2.2.2.2.2.1 d.2.2.2.2.2.2.2.2.2.2.1 d.2.2.2.2.2.2.2.2.2.2.2.1 d.2.2.2.2.2.2.2.2.2.2.2.2.1
def R32q : Nat × Entry := (95, fun k nm args h => entry as32q rs32q (s32q k) pk32q nm args h)
theorem ev32q (k : Nat) (d : AD as32q) : evF E32q A32q k 1000 0 Proofs.Tryz.f95 (absArgs as32q d).1 (absArgs as32q d).2 (outM rs32q up32q) = s32q k d := by
  obtain ⟨_, _, _, _, _, _, _, _, _, _, _, _, _, _⟩ := d
  kernel_rfl
theorem F32q : FnOK Proofs.Tryz.prog R32q := fn_b (E := E32q) (A := A32q) (na := 0) (fn := Proofs.Tryz.f95) (S := s32q) (unpack := up32q) B32q (by kernel_rfl) (loopsOK_of (n := 1) (by kernel_rfl) fun i hi => match i, hi with | 0, _ => ⟨L32_0q, by kernel_rfl, lk32_0q⟩ | i + 1, hi => absurd hi (by omega)) (by kernel_rfl) (by kernel_rfl) (fun _ => rfl) ev32q

/-! ### slices.ContainsFunc[[]giro/api.Pay,giro/api.Pay] -/
noncomputable def E33q : Env := ⟨Proofs.Tryz.prog, fun _ => false, sumsOf [R32q]⟩
def A33q : Notes := ⟨[], []⟩
theorem B33q : EnvB E33q := env_n mixed_orders ⟨F32q, trivial⟩
def as33q : List AS := [.c (.dat false y7q), .fn 123 [[.int .i64], [.int .i64, .int .i64, .int .i64], [.dat false (.int .i64), .dat false (.int .i64), .dat false (.sl (.int .i64))], [.int .i64], [.dat false y3q, .dat false (.sl (.int .i64)), .dat false (.int .i64), .dat false (.sl (.int .i64))]]]
def rs33q : RS := .c (.bool)
def pk33q : Bool → RL rs33q.cells := fun x => (x, ())
def up33q : RL rs33q.cells → Bool := fun d => d.1
def s33q (k : Nat) (d : AD as33q) := slices_ContainsFunc_Pay__fits_move_isShort_fn1 k d.1 d.2.1 d.2.2.1 d.2.2.2.1 d.2.2.2.2.1 d.2.2.2.2.2.1 d.2.2.2.2.2.2.1 d.2.2.2.2.2.2.2.1 d.2.2.2.2.2.2.2.2.1 d.2.2.2.2.2.2.2.2.2.1 d.2.2.2.2.2.2.2.2.2.2.1 d.2.2.2.2.2.2.2.2.2.2.2.1 d.2.2.2.2.2.2.2.2.2.2.2.2.1
def R33q : Nat × Entry := (73, fun k nm args h => entry as33q rs33q (s33q k) pk33q nm args h)
theorem ev33q (k : Nat) (d : AD as33q) : evF E33q A33q k 1000 0 Proofs.Tryz.f73 (absArgs as33q d).1 (absArgs as33q d).2 (outM rs33q up33q) = s33q k d := by
  obtain ⟨_, _, _, _, _, _, _, _, _, _, _, _, _, _⟩ := d
  kernel_rfl
theorem F33q : FnOK Proofs.Tryz.prog R33q := fn_b (E := E33q) (A := A33q) (na := 0) (fn := Proofs.Tryz.f73) (S := s33q) (unpack := up33q) B33q (by kernel_rfl) (loopsOK_none (by kernel_rfl)) (by kernel_rfl) (by kernel_rfl) (fun _ => rfl) ev33q

/-! ### (giro/fits.move).isShort -/
noncomputable def E34q : Env := ⟨Proofs.Tryz.prog, fun _ => false, sumsOf [R28q, R29q, R33q]⟩
def I34_0q : Spec := ⟨[(3, .c (.dat false y7q)), (4, .c (.lit (.ptr 1001000 0))), (5, .c (.lit (.ptr 1001001 0))), (6, .c (.lit (.ptr 1001002 0))), (9, .c (.lit (.ptr 1001003 0))), (10, .c (.lit (.ptr 1001004 0))), (11, .c (.int .i64)), (39, .c (.dat false (.int .i64))), (40, .c (.int .i64)), (41, .c (.int .i64))], [.box true [.dat false (.int .i64), .dat false (.int .i64), .dat false (.sl (.int .i64))], .box true [.dat false y3q, .dat false (.sl (.int .i64)), .dat false (.int .i64), .dat false (.sl (.int .i64))], .box true [.int .i64], .box true [.int .i64, .int .i64, .int .i64], .box true [.int .i64]], []⟩
def X0_34_0q : Spec := ⟨[(3, .c (.dat false y7q)), (4, .c (.lit (.ptr 1001000 0))), (5, .c (.lit (.ptr 1001001 0))), (6, .c (.lit (.ptr 1001002 0))), (9, .c (.lit (.ptr 1001003 0))), (10, .c (.lit (.ptr 1001004 0))), (11, .c (.int .i64))], [.box true [.dat false (.int .i64), .dat false (.int .i64), .dat false (.sl (.int .i64))], .box true [.dat false y3q, .dat false (.sl (.int .i64)), .dat false (.int .i64), .dat false (.sl (.int .i64))], .box true [.int .i64], .box true [.int .i64, .int .i64, .int .i64], .box true [.int .i64]], []⟩
def O34_0q : List (Ex × Spec) := [(.exit 0, X0_34_0q)]
def c34_0q (f : fits_move_isShort_L0T) (d : I34_0q.den) : Option fits_move_isShort_L0X := f d.1.1.1 d.1.2.2.2.2.2.2.1.1 d.1.2.2.2.2.2.2.2.1.1 d.1.2.2.2.2.2.2.2.2.1.1 d.1.2.2.2.2.2.2.2.2.2.1.1 d.2.1.1 d.2.1.2.1 d.2.1.2.2.1 d.2.2.1.1 d.2.2.1.2.1 d.2.2.1.2.2.1 d.2.2.1.2.2.2.1 d.2.2.2.1.1 d.2.2.2.2.1.1 d.2.2.2.2.1.2.1 d.2.2.2.2.1.2.2.1 d.2.2.2.2.2.1.1
def T34_0q : OutD O34_0q → fits_move_isShort_L0X := fun d => (d.1.1.1, d.1.2.2.2.2.2.2.1.1, d.2.1.1, d.2.1.2.1, d.2.1.2.2.1, d.2.2.1.1, d.2.2.1.2.1, d.2.2.1.2.2.1, d.2.2.1.2.2.2.1, d.2.2.2.1.1, d.2.2.2.2.1.1, d.2.2.2.2.1.2.1, d.2.2.2.2.1.2.2.1, d.2.2.2.2.2.1.1)
def e34_0q (base : Nat) (x : fits_move_isShort_L0X) (R : Type) (K : Ex → St → Option R) : Option R := K (.exit 0) (stOf base X0_34_0q (((x.1, ()), (), (), (), (), (), (x.2.1, ()), ()), ((x.2.2.1, x.2.2.2.1, x.2.2.2.2.1, ()), (x.2.2.2.2.2.1, x.2.2.2.2.2.2.1, x.2.2.2.2.2.2.2.1, x.2.2.2.2.2.2.2.2.1, ()), (x.2.2.2.2.2.2.2.2.2.1, ()), (x.2.2.2.2.2.2.2.2.2.2.1, x.2.2.2.2.2.2.2.2.2.2.2.1, x.2.2.2.2.2.2.2.2.2.2.2.2.1, ()), (x.2.2.2.2.2.2.2.2.2.2.2.2.2, ()), ())))
def L34_0q : LoopSum := ⟨I34_0q, O34_0q, fits_move_isShort_L0X, fun k d => c34_0q (fits_move_isShort_L0 k k) d, e34_0q⟩
def A34q : Notes := ⟨[], [(7, L34_0q)]⟩
theorem B34q : EnvB E34q := env_n mixed_orders ⟨F28q, F29q, F33q, trivial⟩
theorem st34_0q (k : Nat) (rec : fits_move_isShort_L0T) (d : I34_0q.den) : c34_0q (fits_move_isShort_L0b k rec) d = evC E34q A34q k 1000 0 59 (loopAt (bodyOf Proofs.Tryz.f94) 0) (stOf (1000 + loopBase) I34_0q d) (roundK 1000 I34_0q O34_0q T34_0q (c34_0q rec)) := by
  obtain ⟨⟨⟨_, _⟩, _, _, _, _, _, ⟨_, _⟩, ⟨_, _⟩, ⟨_, _⟩, ⟨_, _⟩, _⟩, ⟨⟨_, _, _, _⟩, ⟨_, _, _, _, _⟩, ⟨_, _⟩, ⟨_, _, _, _⟩, ⟨_, _⟩, _⟩⟩ := d
  kernel_rfl
theorem lk34_0q : LoopOK Proofs.Tryz.prog 1000 0 59 (loopAt (bodyOf Proofs.Tryz.f94) 0) L34_0q :=
  loop_b (A := A34q) (inS := I34_0q) (outs := O34_0q) B34q (loopsOK_none (by kernel_rfl)) T34_0q e34_0q (fun _ _ _ => rfl) (fun k n d => c34_0q (fits_move_isShort_L0 k n) d) (fun _ _ => rfl) (fun k n d => st34_0q k (fits_move_isShort_L0 k n) d)
def as34q : List AS := [.agg [.dat false (.int .i64), .dat false (.int .i64), .dat false (.sl (.int .i64))], .agg [.dat false y3q, .dat false (.sl (.int .i64)), .dat false (.int .i64), .dat false (.sl (.int .i64))], .c (.int .i64), .c (.dat false y7q)]
def rs34q : RS := .c (.bool)
def pk34q : Bool → RL rs34q.cells := fun x => (x, ())
def up34q : RL rs34q.cells → Bool := fun d => d.1
def s34q (k : Nat) (d : AD as34q) := fits_move_isShort k d.1 d.2.1 d.2.2.1 d.2.2.2.1 d.2.2.2.2.1 d.2.2.2.2.2.1 d.2.2.2.2.2.2.1 d.2.2.2.2.2.2.2.1 d.2.2.2.2.2.2.2.2.1
def R34q : Nat × Entry := (94, fun k nm args h => entry as34q rs34q (s34q k) pk34q nm args h)
theorem ev34q (k : Nat) (d : AD as34q) : evF E34q A34q k 1000 0 Proofs.Tryz.f94 (absArgs as34q d).1 (absArgs as34q d).2 (outM rs34q up34q) = s34q k d := by
  obtain ⟨_, _, _, _, _, _, _, _, _, _⟩ := d
  kernel_rfl
theorem F34q : FnOK Proofs.Tryz.prog R34q := fn_b (E := E34q) (A := A34q) (na := 0) (fn := Proofs.Tryz.f94) (S := s34q) (unpack := up34q) B34q (by kernel_rfl) (loopsOK_of (n := 1) (by kernel_rfl) fun i hi => match i, hi with | 0, _ => ⟨L34_0q, by kernel_rfl, lk34_0q⟩ | i + 1, hi => absurd hi (by omega)) (by kernel_rfl) (by kernel_rfl) (fun _ => rfl) ev34q

/-! ### giro/fits.Short -/
noncomputable def E35q : Env := ⟨Proofs.Tryz.prog, fun _ => false, sumsOf [R24q, R27q, R34q]⟩
def I35_0q : Spec := ⟨[(1, .c (.dat false y7q)), (2, .c (.lit (.ptr 1001000 0))), (5, .c (.lit (.ptr 1001001 0))), (6, .c (.lit (.osl 1001005 none))), (16, .c (.int .i64)), (17, .c (.int .i64))], [.box true [.dat false y3q, .dat false (.sl (.int .i64)), .dat false (.int .i64), .dat false (.sl (.int .i64))], .box true [.lit (.osl 1001002 none), .lit (.osl 1001003 none), .lit (.osl 1001004 none)], .arr true (.int .i64), .arr true (.int .i64), .mat, .arr true (.int .i64)], [(6, none, (.int .i64), false)]⟩
def X0_35_0q : Spec := ⟨[(6, .c (.lit (.osl 1001000 none)))], [.arr true (.int .i64)], []⟩
def O35_0q : List (Ex × Spec) := [(.exit 0, X0_35_0q)]
def c35_0q (f : fits_Short_L0T) (d : I35_0q.den) : Option (List Int) := f d.1.1.1 d.1.2.2.2.2.1.1 d.1.2.2.2.2.2.1.1 d.2.1.1 d.2.1.2.1 d.2.1.2.2.1 d.2.1.2.2.2.1 d.2.2.2.1 d.2.2.2.2.1 d.2.2.2.2.2.1 d.2.2.2.2.2.2.1
def T35_0q : OutD O35_0q → (List Int) := fun d => d.2.1
def e35_0q (base : Nat) (x : (List Int)) (R : Type) (K : Ex → St → Option R) : Option R := K (.exit 0) (stOf base X0_35_0q (((), ()), (x, ())))
def L35_0q : LoopSum := ⟨I35_0q, O35_0q, (List Int), fun k d => c35_0q (fits_Short_L0 k k) d, e35_0q⟩
def A35q : Notes := ⟨[], [(4, L35_0q)]⟩
theorem B35q : EnvB E35q := env_n mixed_orders ⟨F24q, F27q, F34q, trivial⟩
theorem st35_0q (k : Nat) (rec : fits_Short_L0T) (d : I35_0q.den) : c35_0q (fits_Short_L0b k rec) d = evC E35q A35q k 1000 0 37 (loopAt (bodyOf Proofs.Tryz.f65) 0) (stOf (1000 + loopBase) I35_0q d) (roundK 1000 I35_0q O35_0q T35_0q (c35_0q rec)) := by
  obtain ⟨⟨⟨_, _⟩, _, _, _, ⟨_, _⟩, ⟨_, _⟩, _⟩, ⟨⟨_, _, _, _, _⟩, _, _, _, _, _, _⟩⟩ := d
  kernel_rfl
theorem lk35_0q : LoopOK Proofs.Tryz.prog 1000 0 37 (loopAt (bodyOf Proofs.Tryz.f65) 0) L35_0q :=
  loop_b (A := A35q) (inS := I35_0q) (outs := O35_0q) B35q (loopsOK_none (by kernel_rfl)) T35_0q e35_0q (fun _ _ _ => rfl) (fun k n d => c35_0q (fits_Short_L0 k n) d) (fun _ _ => rfl) (fun k n d => st35_0q k (fits_Short_L0 k n) d)
def as35q : List AS := [.agg [.dat false y3q, .dat false (.sl (.int .i64)), .dat false (.int .i64), .dat false (.sl (.int .i64))], .c (.dat false y7q)]
def rs35q : RS := .c (.own (.int .i64))
def pk35q : List Int → RL rs35q.cells := fun x => (x, ())
def up35q : RL rs35q.cells → List Int := fun d => d.1
def s35q (k : Nat) (d : AD as35q) := fits_Short k d.1 d.2.1 d.2.2.1 d.2.2.2.1 d.2.2.2.2.1
def R35q : Nat × Entry := (65, fun k nm args h => entry as35q rs35q (s35q k) pk35q nm args h)
theorem ev35q (k : Nat) (d : AD as35q) : evF E35q A35q k 1000 0 Proofs.Tryz.f65 (absArgs as35q d).1 (absArgs as35q d).2 (outM rs35q up35q) = s35q k d := by
  obtain ⟨_, _, _, _, _, _⟩ := d
  kernel_rfl
theorem F35q : FnOK Proofs.Tryz.prog R35q := fn_b (E := E35q) (A := A35q) (na := 0) (fn := Proofs.Tryz.f65) (S := s35q) (unpack := up35q) B35q (by kernel_rfl) (loopsOK_of (n := 1) (by kernel_rfl) fun i hi => match i, hi with | 0, _ => ⟨L35_0q, by kernel_rfl, lk35_0q⟩ | i + 1, hi => absurd hi (by omega)) (by kernel_rfl) (by kernel_rfl) (fun _ => rfl) ev35q

/-! ### giro/fits.Fits -/
noncomputable def E36q : Env := ⟨Proofs.Tryz.prog, fun _ => false, sumsOf [R20q, R35q]⟩
def A36q : Notes := ⟨[], []⟩
theorem B36q : EnvB E36q := env_n mixed_orders ⟨F20q, F35q, trivial⟩
def as36q : List AS := [.agg [.dat false y3q, .dat false (.sl (.int .i64)), .dat false (.int .i64), .dat false (.sl (.int .i64))], .c (.dat false y7q)]
def rs36q : RS := .c (.bool)
def pk36q : Bool → RL rs36q.cells := fun x => (x, ())
def up36q : RL rs36q.cells → Bool := fun d => d.1
def s36q (k : Nat) (d : AD as36q) := fits_Fits k d.1 d.2.1 d.2.2.1 d.2.2.2.1 d.2.2.2.2.1
def R36q : Nat × Entry := (90, fun k nm args h => entry as36q rs36q (s36q k) pk36q nm args h)
theorem ev36q (k : Nat) (d : AD as36q) : evF E36q A36q k 1000 0 Proofs.Tryz.f90 (absArgs as36q d).1 (absArgs as36q d).2 (outM rs36q up36q) = s36q k d := by
  obtain ⟨_, _, _, _, _, _⟩ := d
  kernel_rfl
theorem F36q : FnOK Proofs.Tryz.prog R36q := fn_b (E := E36q) (A := A36q) (na := 0) (fn := Proofs.Tryz.f90) (S := s36q) (unpack := up36q) B36q (by kernel_rfl) (loopsOK_none (by kernel_rfl)) (by kernel_rfl) (by kernel_rfl) (fun _ => rfl) ev36q

/-! ### giro/post.Post$1 -/
noncomputable def E37q : Env := ⟨Proofs.Tryz.prog, fun _ => false, sumsOf [R17q]⟩
def A37q : Notes := ⟨[], []⟩
theorem B37q : EnvB E37q := env_n mixed_orders ⟨F17q, trivial⟩
def as37q : List AS := [.agg [.int .i64, .int .i64, .int .i64, .int .i64, .int .i64, .int .i64, .int .i64], .ptr [.dat false y3q, .dat false (.sl (.int .i64)), .dat false (.int .i64), .dat false (.sl (.int .i64))]]
def rs37q : RS := .c (.bool)
def pk37q : Bool → RL rs37q.cells := fun x => (x, ())
def up37q : RL rs37q.cells → Bool := fun d => d.1
def s37q (k : Nat) (d : AD as37q) := post_Post_fn1 k d.1 d.2.1 d.2.2.1 d.2.2.2.1 d.2.2.2.2.1 d.2.2.2.2.2.1 d.2.2.2.2.2.2.1 d.2.2.2.2.2.2.2.1 d.2.2.2.2.2.2.2.2.1 d.2.2.2.2.2.2.2.2.2.1 d.2.2.2.2.2.2.2.2.2.2.1
def R37q : Nat × Entry := (71, fun k nm args h => entry as37q rs37q (s37q k) pk37q nm args h)
theorem ev37q (k : Nat) (d : AD as37q) : evF E37q A37q k 1000 0 Proofs.Tryz.f71 (absArgs as37q d).1 (absArgs as37q d).2 (outM rs37q up37q) = s37q k d := by
  obtain ⟨_, _, _, _, _, _, _, _, _, _, _, _⟩ := d
  kernel_rfl
theorem F37q : FnOK Proofs.Tryz.prog R37q := fn_b (E := E37q) (A := A37q) (na := 0) (fn := Proofs.Tryz.f71) (S := s37q) (unpack := up37q) B37q (by kernel_rfl) (loopsOK_none (by kernel_rfl)) (by kernel_rfl) (by kernel_rfl) (fun _ => rfl) ev37q

/-! ### slices.IndexFunc[[]giro/api.Pay,giro/api.Pay] -/
noncomputable def E38q : Env := ⟨Proofs.Tryz.prog, fun _ => false, sumsOf [R37q]⟩
def I38_0q : Spec := ⟨[(0, .c (.dat false y7q)), (1, .c (.lit (.fn 71 [1001000]))), (7, .c (.int .i64)), (8, .c (.int .i64))], [.robox [.dat false y3q, .dat false (.sl (.int .i64)), .dat false (.int .i64), .dat false (.sl (.int .i64))]], []⟩
def X0_38_0q : Spec := ⟨[], [], []⟩
def X1_38_0q : Spec := ⟨[(4, .c (.int .i64))], [], []⟩
def O38_0q : List (Ex × Spec) := [(.exit 0, X0_38_0q), (.ret, X1_38_0q)]
def c38_0q (f : slices_IndexFunc_Pay__post_Post_fn1_L0T) (d : I38_0q.den) : Option (Unit ⊕ Int) := f d.1.1.1 d.1.2.2.1.1 d.1.2.2.2.1.1 d.2.1.1 d.2.1.2.1 d.2.1.2.2.1 d.2.1.2.2.2.1
def T38_0q : OutD O38_0q → (Unit ⊕ Int)
 | .inl d => .inl ()
 | .inr d => .inr d.1.1.1
def e38_0q (base : Nat) (x : (Unit ⊕ Int)) (R : Type) (K : Ex → St → Option R) : Option R := match x with
 | .inl x => K (.exit 0) (stOf base X0_38_0q ((), ()))
 | .inr x => K .ret (stOf base X1_38_0q (((x, ()), ()), ()))
def L38_0q : LoopSum := ⟨I38_0q, O38_0q, (Unit ⊕ Int), fun k d => c38_0q (slices_IndexFunc_Pay__post_Post_fn1_L0 k k) d, e38_0q⟩
def A38q : Notes := ⟨[], [(2, L38_0q)]⟩
theorem B38q : EnvB E38q := env_n mixed_orders ⟨F37q, trivial⟩
theorem st38_0q (k : Nat) (rec : slices_IndexFunc_Pay__post_Post_fn1_L0T) (d : I38_0q.den) : c38_0q (slices_IndexFunc_Pay__post_Post_fn1_L0b k rec) d = evC E38q A38q k 1000 0 19 (loopAt (bodyOf Proofs.Tryz.f95) 0) (stOf (1000 + loopBase) I38_0q d) (roundK 1000 I38_0q O38_0q T38_0q (c38_0q rec)) := by
  obtain ⟨⟨⟨_, _⟩, _, ⟨_, _⟩, ⟨_, _⟩, _⟩, ⟨⟨_, _, _, _, _⟩, _⟩⟩ := d
  kernel_rfl
theorem lk38_0q : LoopOK Proofs.Tryz.prog 1000 0 19 (loopAt (bodyOf Proofs.Tryz.f95) 0) L38_0q :=
  loop_b (A := A38q) (inS := I38_0q) (outs := O38_0q) B38q (loopsOK_none (by kernel_rfl)) T38_0q e38_0q (by intro o R K; rcases o with o | o <;> rfl) (fun k n d => c38_0q (slices_IndexFunc_Pay__post_Post_fn1_L0 k n) d) (fun _ _ => rfl) (fun k n d => st38_0q k (slices_IndexFunc_Pay__post_Post_fn1_L0 k n) d)
def as38q : List AS := [.c (.dat false y7q), .fn 71 [[.dat false y3q, .dat false (.sl (.int .i64)), .dat false (.int .i64), .dat false (.sl (.int .i64))]]]
def rs38q : RS := .c (.int .i64)
def pk38q : Int → RL rs38q.cells := fun x => (x, ())
def up38q : RL rs38q.cells → Int := fun d => d.1
def s38q (k : Nat) (d : AD as38q) := slices_IndexFunc_Pay__post_Post_fn1 k d.1 d.2.1 d.2.2.1 d.2.2.2.1 d.2.2.2.2.1
def R38q : Nat × Entry := (95, fun k nm args h => entry as38q rs38q (s38q k) pk38q nm args h)
theorem ev38q (k : Nat) (d : AD as38q) : evF E38q A38q k 1000 0 Proofs.Tryz.f95 (absArgs as38q d).1 (absArgs as38q d).2 (outM rs38q up38q) = s38q k d := by
  obtain ⟨_, _, _, _, _, _⟩ := d
  kernel_rfl
theorem F38q : FnOK Proofs.Tryz.prog R38q := fn_b (E := E38q) (A := A38q) (na := 0) (fn := Proofs.Tryz.f95) (S := s38q) (unpack := up38q) B38q (by kernel_rfl) (loopsOK_of (n := 1) (by kernel_rfl) fun i hi => match i, hi with | 0, _ => ⟨L38_0q, by kernel_rfl, lk38_0q⟩ | i + 1, hi => absurd hi (by omega)) (by kernel_rfl) (by kernel_rfl) (fun _ => rfl) ev38q

/-! ### slices.ContainsFunc[[]giro/api.Pay,giro/api.Pay] -/
noncomputable def E39q : Env := ⟨Proofs.Tryz.prog, fun _ => false, sumsOf [R38q]⟩
def A39q : Notes := ⟨[], []⟩
theorem B39q : EnvB E39q := env_n mixed_orders ⟨F38q, trivial⟩
def as39q : List AS := [.c (.dat false y7q), .fn 71 [[.dat false y3q, .dat false (.sl (.int .i64)), .dat false (.int .i64), .dat false (.sl (.int .i64))]]]
def rs39q : RS := .c (.bool)
def pk39q : Bool → RL rs39q.cells := fun x => (x, ())
def up39q : RL rs39q.cells → Bool := fun d => d.1
def s39q (k : Nat) (d : AD as39q) := slices_ContainsFunc_Pay__post_Post_fn1 k d.1 d.2.1 d.2.2.1 d.2.2.2.1 d.2.2.2.2.1
def R39q : Nat × Entry := (73, fun k nm args h => entry as39q rs39q (s39q k) pk39q nm args h)
theorem ev39q (k : Nat) (d : AD as39q) : evF E39q A39q k 1000 0 Proofs.Tryz.f73 (absArgs as39q d).1 (absArgs as39q d).2 (outM rs39q up39q) = s39q k d := by
  obtain ⟨_, _, _, _, _, _⟩ := d
  kernel_rfl
theorem F39q : FnOK Proofs.Tryz.prog R39q := fn_b (E := E39q) (A := A39q) (na := 0) (fn := Proofs.Tryz.f73) (S := s39q) (unpack := up39q) B39q (by kernel_rfl) (loopsOK_none (by kernel_rfl)) (by kernel_rfl) (by kernel_rfl) (fun _ => rfl) ev39q

/-! ### slices.Clone[[]giro/api.Acct,giro/api.Acct] -/
noncomputable def E40q : Env := ⟨Proofs.Tryz.prog, fun _ => false, sumsOf []⟩
def A40q : Notes := ⟨[], []⟩
theorem B40q : EnvB E40q := env_n mixed_orders trivial
def as40q : List AS := [.c (.dat false y3q)]
def rs40q : RS := .c (.own y3q)
def pk40q : List K2q → RL rs40q.cells := fun x => (x, ())
def up40q : RL rs40q.cells → List K2q := fun d => d.1
def s40q (k : Nat) (d : AD as40q) := slices_Clone_Acct k d.1
def R40q : Nat × Entry := (96, fun k nm args h => entry as40q rs40q (fun d => slices_Clone_Acct k d.1) pk40q nm args h)
theorem nil40q (k : Nat) : evF E40q A40q k 1000 0 Proofs.Tryz.f96 [.c .nsl] (boxHp []) (outM rs40q up40q) = slices_Clone_Acct k [] := by kernel_rfl
theorem ev40q (k : Nat) (xs : List K2q) : evF E40q A40q k 1000 0 Proofs.Tryz.f96 [.c (.nfl false y3q xs)] (boxHp []) (outM rs40q up40q) = slices_Clone_Acct k xs := by kernel_rfl
theorem F40q : FnOK Proofs.Tryz.prog R40q := fn_nil (E := E40q) (A := A40q) (na := 0) (fn := Proofs.Tryz.f96) (t := y3q) (S := slices_Clone_Acct) (unpack := up40q) B40q (by kernel_rfl) (loopsOK_none (by kernel_rfl)) (by kernel_rfl) (by kernel_rfl) (fun _ => rfl) (fun k x hx => (nil40q k).trans hx) (fun k xs x hx => (ev40q k xs).trans hx)

/-! ### slices.Clone[[][]int64,[]int64] -/
noncomputable def E41q : Env := ⟨Proofs.Tryz.prog, fun _ => false, sumsOf []⟩
def A41q : Notes := ⟨[], []⟩
theorem B41q : EnvB E41q := env_n mixed_orders trivial
def as41q : List AS := [.c (.dat true (.sl (.int .i64)))]
def rs41q : RS := .c (.jun)
def pk41q : Nat → RL rs41q.cells := fun x => (x, ())
def up41q : RL rs41q.cells → Nat := fun d => d.1
def s41q (k : Nat) (d : AD as41q) := slices_Clone_Rowint64 k d.1
def R41q : Nat × Entry := (124, fun k nm args h => entry as41q rs41q (fun d => slices_Clone_Rowint64 k d.1) pk41q nm args h)
theorem nil41q (k : Nat) : evF E41q A41q k 1000 0 Proofs.Tryz.f124 [.c .nsl] (boxHp []) (outM rs41q up41q) = slices_Clone_Rowint64 k [] := by kernel_rfl
theorem ev41q (k : Nat) (xs : List (List Int)) : evF E41q A41q k 1000 0 Proofs.Tryz.f124 [.c (.nfl true (.sl (.int .i64)) xs)] (boxHp []) (outM rs41q up41q) = slices_Clone_Rowint64 k xs := by kernel_rfl
theorem F41q : FnOK Proofs.Tryz.prog R41q := fn_nil (E := E41q) (A := A41q) (na := 0) (fn := Proofs.Tryz.f124) (t := (.sl (.int .i64))) (S := slices_Clone_Rowint64) (unpack := up41q) B41q (by kernel_rfl) (loopsOK_none (by kernel_rfl)) (by kernel_rfl) (by kernel_rfl) (fun _ => rfl) (fun k x hx => (nil41q k).trans hx) (fun k xs x hx => (ev41q k xs).trans hx)

/-! ### slices.Clone[[]int64,int64] -/
noncomputable def E42q : Env := ⟨Proofs.Tryz.prog, fun _ => false, sumsOf []⟩
def A42q : Notes := ⟨[], []⟩
theorem B42q : EnvB E42q := env_n mixed_orders trivial
def as42q : List AS := [.c (.dat false (.int .i64))]
def rs42q : RS := .c (.own (.int .i64))
def pk42q : List Int → RL rs42q.cells := fun x => (x, ())
def up42q : RL rs42q.cells → List Int := fun d => d.1
def s42q (k : Nat) (d : AD as42q) := slices_Clone_int64 k d.1
def R42q : Nat × Entry := (98, fun k nm args h => entry as42q rs42q (fun d => slices_Clone_int64 k d.1) pk42q nm args h)
theorem nil42q (k : Nat) : evF E42q A42q k 1000 0 Proofs.Tryz.f98 [.c .nsl] (boxHp []) (outM rs42q up42q) = slices_Clone_int64 k [] := by kernel_rfl
theorem ev42q (k : Nat) (xs : List Int) : evF E42q A42q k 1000 0 Proofs.Tryz.f98 [.c (.nfl false (.int .i64) xs)] (boxHp []) (outM rs42q up42q) = slices_Clone_int64 k xs := by kernel_rfl
theorem F42q : FnOK Proofs.Tryz.prog R42q := fn_nil (E := E42q) (A := A42q) (na := 0) (fn := Proofs.Tryz.f98) (t := (.int .i64)) (S := slices_Clone_int64) (unpack := up42q) B42q (by kernel_rfl) (loopsOK_none (by kernel_rfl)) (by kernel_rfl) (by kernel_rfl) (fun _ => rfl) (fun k x hx => (nil42q k).trans hx) (fun k xs x hx => (ev42q k xs).trans hx)

/-! ### giro/lim.copied -/
noncomputable def E43q : Env := ⟨Proofs.Tryz.prog, fun _ => false, sumsOf [R41q, R42q]⟩
def I43_0q : Spec := ⟨[(3, .c (.lit (.osl 1001000 none))), (8, .c (.dat true (.sl (.int .i64)))), (9, .c (.int .i64)), (10, .c (.int .i64))], [.pmat], []⟩
def X0_43_0q : Spec := ⟨[(3, .c (.lit (.osl 1001000 none)))], [.pmat], []⟩
def O43_0q : List (Ex × Spec) := [(.exit 0, X0_43_0q)]
def c43_0q (f : lim_copied_L0T) (d : I43_0q.den) : Option ((List (List Int)) × Nat) := f d.1.2.1.1 d.1.2.2.1.1 d.1.2.2.2.1.1 d.2.1.1 d.2.1.2
def T43_0q : OutD O43_0q → ((List (List Int)) × Nat) := fun d => (d.2.1.1, d.2.1.2)
def e43_0q (base : Nat) (x : ((List (List Int)) × Nat)) (R : Type) (K : Ex → St → Option R) : Option R := K (.exit 0) (stOf base X0_43_0q (((), ()), ((x.1, x.2), ())))
def L43_0q : LoopSum := ⟨I43_0q, O43_0q, ((List (List Int)) × Nat), fun k d => c43_0q (lim_copied_L0 k k) d, e43_0q⟩
def A43q : Notes := ⟨[], [(3, L43_0q)]⟩
theorem B43q : EnvB E43q := env_n mixed_orders ⟨F41q, F42q, trivial⟩
theorem st43_0q (k : Nat) (rec : lim_copied_L0T) (d : I43_0q.den) : c43_0q (lim_copied_L0b k rec) d = evC E43q A43q k 1000 0 22 (loopAt (bodyOf Proofs.Tryz.f97) 0) (stOf (1000 + loopBase) I43_0q d) (roundK 1000 I43_0q O43_0q T43_0q (c43_0q rec)) := by
  obtain ⟨⟨_, ⟨_, _⟩, ⟨_, _⟩, ⟨_, _⟩, _⟩, ⟨_, _⟩⟩ := d
  kernel_rfl
theorem lk43_0q : LoopOK Proofs.Tryz.prog 1000 0 22 (loopAt (bodyOf Proofs.Tryz.f97) 0) L43_0q :=
  loop_b (A := A43q) (inS := I43_0q) (outs := O43_0q) B43q (loopsOK_none (by kernel_rfl)) T43_0q e43_0q (fun _ _ _ => rfl) (fun k n d => c43_0q (lim_copied_L0 k n) d) (fun _ _ => rfl) (fun k n d => st43_0q k (lim_copied_L0 k n) d)
def as43q : List AS := [.c (.dat true (.sl (.int .i64)))]
def rs43q : RS := .c (.mat)
def pk43q : List (List Int) → RL rs43q.cells := fun x => (x, ())
def up43q : RL rs43q.cells → List (List Int) := fun d => d.1
def s43q (k : Nat) (d : AD as43q) := lim_copied k d.1
def R43q : Nat × Entry := (97, fun k nm args h => entry as43q rs43q (s43q k) pk43q nm args h)
theorem ev43q (k : Nat) (d : AD as43q) : evF E43q A43q k 1000 0 Proofs.Tryz.f97 (absArgs as43q d).1 (absArgs as43q d).2 (outM rs43q up43q) = s43q k d := by
  obtain ⟨_, _⟩ := d
  kernel_rfl
theorem F43q : FnOK Proofs.Tryz.prog R43q := fn_b (E := E43q) (A := A43q) (na := 0) (fn := Proofs.Tryz.f97) (S := s43q) (unpack := up43q) B43q (by kernel_rfl) (loopsOK_of (n := 1) (by kernel_rfl) fun i hi => match i, hi with | 0, _ => ⟨L43_0q, by kernel_rfl, lk43_0q⟩ | i + 1, hi => absurd hi (by omega)) (by kernel_rfl) (by kernel_rfl) (fun _ => rfl) ev43q

/-! ### giro/lim.Copy -/
noncomputable def E44q : Env := ⟨Proofs.Tryz.prog, fun _ => false, sumsOf [R40q, R43q, R42q]⟩
def A44q : Notes := ⟨[], []⟩
theorem B44q : EnvB E44q := env_n mixed_orders ⟨F40q, F43q, F42q, trivial⟩
def as44q : List AS := [.agg [.dat false y3q, .dat true (.sl (.int .i64)), .dat false (.int .i64), .dat true (.sl (.int .i64))]]
def rs44q : RS := .agg [.own y3q, .mat, .own (.int .i64), .mat]
def pk44q : (List K2q) × (List (List Int)) × (List Int) × (List (List Int)) → RL rs44q.cells := fun x => (x.1, x.2.1, x.2.2.1, x.2.2.2, ())
def up44q : RL rs44q.cells → (List K2q) × (List (List Int)) × (List Int) × (List (List Int)) := fun d => (d.1, d.2.1, d.2.2.1, d.2.2.2.1)
def s44q (k : Nat) (d : AD as44q) := lim_Copy k d.1 d.2.1 d.2.2.1 d.2.2.2.1
def R44q : Nat × Entry := (74, fun k nm args h => entry as44q rs44q (s44q k) pk44q nm args h)
theorem ev44q (k : Nat) (d : AD as44q) : evF E44q A44q k 1000 0 Proofs.Tryz.f74 (absArgs as44q d).1 (absArgs as44q d).2 (outM rs44q up44q) = s44q k d := by
  obtain ⟨_, _, _, _, _⟩ := d
  kernel_rfl
theorem F44q : FnOK Proofs.Tryz.prog R44q := fn_b (E := E44q) (A := A44q) (na := 0) (fn := Proofs.Tryz.f74) (S := s44q) (unpack := up44q) B44q (by kernel_rfl) (loopsOK_none (by kernel_rfl)) (by kernel_rfl) (by kernel_rfl) (fun _ => rfl) ev44q

/-! ### giro/acct.Is -/
noncomputable def E45q : Env := ⟨Proofs.Tryz.prog, fun _ => false, sumsOf []⟩
def A45q : Notes := ⟨[], []⟩
theorem B45q : EnvB E45q := env_n mixed_orders trivial
def as45q : List AS := [.agg [.int .i64, .int .i64, .int .i64]]
def rs45q : RS := .c (.bool)
def pk45q : Bool → RL rs45q.cells := fun x => (x, ())
def up45q : RL rs45q.cells → Bool := fun d => d.1
def s45q (k : Nat) (d : AD as45q) := acct_Is k d.1 d.2.1 d.2.2.1
def R45q : Nat × Entry := (100, fun k nm args h => entry as45q rs45q (s45q k) pk45q nm args h)
theorem ev45q (k : Nat) (d : AD as45q) : evF E45q A45q k 1000 0 Proofs.Tryz.f100 (absArgs as45q d).1 (absArgs as45q d).2 (outM rs45q up45q) = s45q k d := by
  obtain ⟨_, _, _, _⟩ := d
  kernel_rfl
theorem F45q : FnOK Proofs.Tryz.prog R45q := fn_b (E := E45q) (A := A45q) (na := 0) (fn := Proofs.Tryz.f100) (S := s45q) (unpack := up45q) B45q (by kernel_rfl) (loopsOK_none (by kernel_rfl)) (by kernel_rfl) (by kernel_rfl) (fun _ => rfl) ev45q

/-! ### giro/lim.Is$1 -/
noncomputable def E46q : Env := ⟨Proofs.Tryz.prog, fun _ => false, sumsOf [R45q]⟩
def A46q : Notes := ⟨[], []⟩
theorem B46q : EnvB E46q := env_n mixed_orders ⟨F45q, trivial⟩
def as46q : List AS := [.agg [.int .i64, .int .i64, .int .i64]]
def rs46q : RS := .c (.bool)
def pk46q : Bool → RL rs46q.cells := fun x => (x, ())
def up46q : RL rs46q.cells → Bool := fun d => d.1
def s46q (k : Nat) (d : AD as46q) := lim_Is_fn1 k d.1 d.2.1 d.2.2.1
def R46q : Nat × Entry := (99, fun k nm args h => entry as46q rs46q (s46q k) pk46q nm args h)
theorem ev46q (k : Nat) (d : AD as46q) : evF E46q A46q k 1000 0 Proofs.Tryz.f99 (absArgs as46q d).1 (absArgs as46q d).2 (outM rs46q up46q) = s46q k d := by
  obtain ⟨_, _, _, _⟩ := d
  kernel_rfl
theorem F46q : FnOK Proofs.Tryz.prog R46q := fn_b (E := E46q) (A := A46q) (na := 0) (fn := Proofs.Tryz.f99) (S := s46q) (unpack := up46q) B46q (by kernel_rfl) (loopsOK_none (by kernel_rfl)) (by kernel_rfl) (by kernel_rfl) (fun _ => rfl) ev46q

/-! ### slices.IndexFunc[[]giro/api.Acct,giro/api.Acct] -/
noncomputable def E47q : Env := ⟨Proofs.Tryz.prog, fun _ => false, sumsOf [R46q]⟩
def I47_0q : Spec := ⟨[(0, .c (.dat false y3q)), (1, .c (.lit (.fn 99 []))), (7, .c (.int .i64)), (8, .c (.int .i64))], [], []⟩
def X0_47_0q : Spec := ⟨[], [], []⟩
def X1_47_0q : Spec := ⟨[(4, .c (.int .i64))], [], []⟩
def O47_0q : List (Ex × Spec) := [(.exit 0, X0_47_0q), (.ret, X1_47_0q)]
def c47_0q (f : slices_IndexFunc_Acct__lim_Is_fn1_L0T) (d : I47_0q.den) : Option (Unit ⊕ Int) := f d.1.1.1 d.1.2.2.1.1 d.1.2.2.2.1.1
def T47_0q : OutD O47_0q → (Unit ⊕ Int)
 | .inl d => .inl ()
 | .inr d => .inr d.1.1.1
def e47_0q (base : Nat) (x : (Unit ⊕ Int)) (R : Type) (K : Ex → St → Option R) : Option R := match x with
 | .inl x => K (.exit 0) (stOf base X0_47_0q ((), ()))
 | .inr x => K .ret (stOf base X1_47_0q (((x, ()), ()), ()))
def L47_0q : LoopSum := ⟨I47_0q, O47_0q, (Unit ⊕ Int), fun k d => c47_0q (slices_IndexFunc_Acct__lim_Is_fn1_L0 k k) d, e47_0q⟩
def A47q : Notes := ⟨[], [(2, L47_0q)]⟩
theorem B47q : EnvB E47q := env_n mixed_orders ⟨F46q, trivial⟩
theorem st47_0q (k : Nat) (rec : slices_IndexFunc_Acct__lim_Is_fn1_L0T) (d : I47_0q.den) : c47_0q (slices_IndexFunc_Acct__lim_Is_fn1_L0b k rec) d = evC E47q A47q k 1000 0 19 (loopAt (bodyOf Proofs.Tryz.f125) 0) (stOf (1000 + loopBase) I47_0q d) (roundK 1000 I47_0q O47_0q T47_0q (c47_0q rec)) := by
  obtain ⟨⟨⟨_, _⟩, _, ⟨_, _⟩, ⟨_, _⟩, _⟩, _⟩ := d
  kernel_rfl
theorem lk47_0q : LoopOK Proofs.Tryz.prog 1000 0 19 (loopAt (bodyOf Proofs.Tryz.f125) 0) L47_0q :=
  loop_b (A := A47q) (inS := I47_0q) (outs := O47_0q) B47q (loopsOK_none (by kernel_rfl)) T47_0q e47_0q (by intro o R K; rcases o with o | o <;> rfl) (fun k n d => c47_0q (slices_IndexFunc_Acct__lim_Is_fn1_L0 k n) d) (fun _ _ => rfl) (fun k n d => st47_0q k (slices_IndexFunc_Acct__lim_Is_fn1_L0 k n) d)
def as47q : List AS := [.c (.dat false y3q), .c (.fn 99)]
def rs47q : RS := .c (.int .i64)
def pk47q : Int → RL rs47q.cells := fun x => (x, ())
def up47q : RL rs47q.cells → Int := fun d => d.1
def s47q (k : Nat) (d : AD as47q) := slices_IndexFunc_Acct__lim_Is_fn1 k d.1
def R47q : Nat × Entry := (125, fun k nm args h => entry as47q rs47q (s47q k) pk47q nm args h)
theorem ev47q (k : Nat) (d : AD as47q) : evF E47q A47q k 1000 0 Proofs.Tryz.f125 (absArgs as47q d).1 (absArgs as47q d).2 (outM rs47q up47q) = s47q k d := by
  obtain ⟨_, _, _⟩ := d
  kernel_rfl
theorem F47q : FnOK Proofs.Tryz.prog R47q := fn_b (E := E47q) (A := A47q) (na := 0) (fn := Proofs.Tryz.f125) (S := s47q) (unpack := up47q) B47q (by kernel_rfl) (loopsOK_of (n := 1) (by kernel_rfl) fun i hi => match i, hi with | 0, _ => ⟨L47_0q, by kernel_rfl, lk47_0q⟩ | i + 1, hi => absurd hi (by omega)) (by kernel_rfl) (by kernel_rfl) (fun _ => rfl) ev47q

/-! ### slices.ContainsFunc[[]giro/api.Acct,giro/api.Acct] -/
noncomputable def E48q : Env := ⟨Proofs.Tryz.prog, fun _ => false, sumsOf [R47q]⟩
def A48q : Notes := ⟨[], []⟩
theorem B48q : EnvB E48q := env_n mixed_orders ⟨F47q, trivial⟩
def as48q : List AS := [.c (.dat false y3q), .c (.fn 99)]
def rs48q : RS := .c (.bool)
def pk48q : Bool → RL rs48q.cells := fun x => (x, ())
def up48q : RL rs48q.cells → Bool := fun d => d.1
def s48q (k : Nat) (d : AD as48q) := slices_ContainsFunc_Acct__lim_Is_fn1 k d.1
def R48q : Nat × Entry := (101, fun k nm args h => entry as48q rs48q (s48q k) pk48q nm args h)
theorem ev48q (k : Nat) (d : AD as48q) : evF E48q A48q k 1000 0 Proofs.Tryz.f101 (absArgs as48q d).1 (absArgs as48q d).2 (outM rs48q up48q) = s48q k d := by
  obtain ⟨_, _, _⟩ := d
  kernel_rfl
theorem F48q : FnOK Proofs.Tryz.prog R48q := fn_b (E := E48q) (A := A48q) (na := 0) (fn := Proofs.Tryz.f101) (S := s48q) (unpack := up48q) B48q (by kernel_rfl) (loopsOK_none (by kernel_rfl)) (by kernel_rfl) (by kernel_rfl) (fun _ => rfl) ev48q

/-! ### giro/lim.isLimit -/
noncomputable def E49q : Env := ⟨Proofs.Tryz.prog, fun _ => false, sumsOf []⟩
def A49q : Notes := ⟨[], []⟩
theorem B49q : EnvB E49q := env_n mixed_orders trivial
def as49q : List AS := [.c (.int .i64)]
def rs49q : RS := .c (.bool)
def pk49q : Bool → RL rs49q.cells := fun x => (x, ())
def up49q : RL rs49q.cells → Bool := fun d => d.1
def s49q (k : Nat) (d : AD as49q) := lim_isLimit k d.1
def R49q : Nat × Entry := (103, fun k nm args h => entry as49q rs49q (s49q k) pk49q nm args h)
theorem ev49q (k : Nat) (d : AD as49q) : evF E49q A49q k 1000 0 Proofs.Tryz.f103 (absArgs as49q d).1 (absArgs as49q d).2 (outM rs49q up49q) = s49q k d := by
  obtain ⟨_, _⟩ := d
  kernel_rfl
theorem F49q : FnOK Proofs.Tryz.prog R49q := fn_b (E := E49q) (A := A49q) (na := 0) (fn := Proofs.Tryz.f103) (S := s49q) (unpack := up49q) B49q (by kernel_rfl) (loopsOK_none (by kernel_rfl)) (by kernel_rfl) (by kernel_rfl) (fun _ => rfl) ev49q

/-! ### giro/lim.isRow$1 -/
noncomputable def E50q : Env := ⟨Proofs.Tryz.prog, fun _ => false, sumsOf [R49q]⟩
def A50q : Notes := ⟨[], []⟩
theorem B50q : EnvB E50q := env_n mixed_orders ⟨F49q, trivial⟩
def as50q : List AS := [.c (.int .i64), .ptr [.fn 103]]
def rs50q : RS := .c (.bool)
def pk50q : Bool → RL rs50q.cells := fun x => (x, ())
def up50q : RL rs50q.cells → Bool := fun d => d.1
def s50q (k : Nat) (d : AD as50q) := lim_isRow_fn1__lim_isLimit k d.1
def R50q : Nat × Entry := (127, fun k nm args h => entry as50q rs50q (s50q k) pk50q nm args h)
theorem ev50q (k : Nat) (d : AD as50q) : evF E50q A50q k 1000 0 Proofs.Tryz.f127 (absArgs as50q d).1 (absArgs as50q d).2 (outM rs50q up50q) = s50q k d := by
  obtain ⟨_, _, _⟩ := d
  kernel_rfl
theorem F50q : FnOK Proofs.Tryz.prog R50q := fn_b (E := E50q) (A := A50q) (na := 0) (fn := Proofs.Tryz.f127) (S := s50q) (unpack := up50q) B50q (by kernel_rfl) (loopsOK_none (by kernel_rfl)) (by kernel_rfl) (by kernel_rfl) (fun _ => rfl) ev50q

/-! ### slices.IndexFunc[[]int64,int64] -/
noncomputable def E51q : Env := ⟨Proofs.Tryz.prog, fun _ => false, sumsOf [R50q]⟩
def I51_0q : Spec := ⟨[(0, .c (.dat false (.int .i64))), (1, .c (.lit (.fn 127 [1001000]))), (7, .c (.int .i64)), (8, .c (.int .i64))], [.robox [.lit (.fn 103 [])]], []⟩
def X0_51_0q : Spec := ⟨[], [], []⟩
def X1_51_0q : Spec := ⟨[(4, .c (.int .i64))], [], []⟩
def O51_0q : List (Ex × Spec) := [(.exit 0, X0_51_0q), (.ret, X1_51_0q)]
def c51_0q (f : slices_IndexFunc_int64__lim_isRow_fn1__lim_isLimit_L0T) (d : I51_0q.den) : Option (Unit ⊕ Int) := f d.1.1.1 d.1.2.2.1.1 d.1.2.2.2.1.1
def T51_0q : OutD O51_0q → (Unit ⊕ Int)
 | .inl d => .inl ()
 | .inr d => .inr d.1.1.1
def e51_0q (base : Nat) (x : (Unit ⊕ Int)) (R : Type) (K : Ex → St → Option R) : Option R := match x with
 | .inl x => K (.exit 0) (stOf base X0_51_0q ((), ()))
 | .inr x => K .ret (stOf base X1_51_0q (((x, ()), ()), ()))
def L51_0q : LoopSum := ⟨I51_0q, O51_0q, (Unit ⊕ Int), fun k d => c51_0q (slices_IndexFunc_int64__lim_isRow_fn1__lim_isLimit_L0 k k) d, e51_0q⟩
def A51q : Notes := ⟨[], [(2, L51_0q)]⟩
theorem B51q : EnvB E51q := env_n mixed_orders ⟨F50q, trivial⟩
theorem st51_0q (k : Nat) (rec : slices_IndexFunc_int64__lim_isRow_fn1__lim_isLimit_L0T) (d : I51_0q.den) : c51_0q (slices_IndexFunc_int64__lim_isRow_fn1__lim_isLimit_L0b k rec) d = evC E51q A51q k 1000 0 19 (loopAt (bodyOf Proofs.Tryz.f130) 0) (stOf (1000 + loopBase) I51_0q d) (roundK 1000 I51_0q O51_0q T51_0q (c51_0q rec)) := by
  obtain ⟨⟨⟨_, _⟩, _, ⟨_, _⟩, ⟨_, _⟩, _⟩, ⟨_, _⟩⟩ := d
  kernel_rfl
theorem lk51_0q : LoopOK Proofs.Tryz.prog 1000 0 19 (loopAt (bodyOf Proofs.Tryz.f130) 0) L51_0q :=
  loop_b (A := A51q) (inS := I51_0q) (outs := O51_0q) B51q (loopsOK_none (by kernel_rfl)) T51_0q e51_0q (by intro o R K; rcases o with o | o <;> rfl) (fun k n d => c51_0q (slices_IndexFunc_int64__lim_isRow_fn1__lim_isLimit_L0 k n) d) (fun _ _ => rfl) (fun k n d => st51_0q k (slices_IndexFunc_int64__lim_isRow_fn1__lim_isLimit_L0 k n) d)
def as51q : List AS := [.c (.dat false (.int .i64)), .fn 127 [[.fn 103]]]
def rs51q : RS := .c (.int .i64)
def pk51q : Int → RL rs51q.cells := fun x => (x, ())
def up51q : RL rs51q.cells → Int := fun d => d.1
def s51q (k : Nat) (d : AD as51q) := slices_IndexFunc_int64__lim_isRow_fn1__lim_isLimit k d.1
def R51q : Nat × Entry := (130, fun k nm args h => entry as51q rs51q (s51q k) pk51q nm args h)
theorem ev51q (k : Nat) (d : AD as51q) : evF E51q A51q k 1000 0 Proofs.Tryz.f130 (absArgs as51q d).1 (absArgs as51q d).2 (outM rs51q up51q) = s51q k d := by
  obtain ⟨_, _, _⟩ := d
  kernel_rfl
theorem F51q : FnOK Proofs.Tryz.prog R51q := fn_b (E := E51q) (A := A51q) (na := 0) (fn := Proofs.Tryz.f130) (S := s51q) (unpack := up51q) B51q (by kernel_rfl) (loopsOK_of (n := 1) (by kernel_rfl) fun i hi => match i, hi with | 0, _ => ⟨L51_0q, by kernel_rfl, lk51_0q⟩ | i + 1, hi => absurd hi (by omega)) (by kernel_rfl) (by kernel_rfl) (fun _ => rfl) ev51q

/-! ### slices.ContainsFunc[[]int64,int64] -/
noncomputable def E52q : Env := ⟨Proofs.Tryz.prog, fun _ => false, sumsOf [R51q]⟩
def A52q : Notes := ⟨[], []⟩
theorem B52q : EnvB E52q := env_n mixed_orders ⟨F51q, trivial⟩
def as52q : List AS := [.c (.dat false (.int .i64)), .fn 127 [[.fn 103]]]
def rs52q : RS := .c (.bool)
def pk52q : Bool → RL rs52q.cells := fun x => (x, ())
def up52q : RL rs52q.cells → Bool := fun d => d.1
def s52q (k : Nat) (d : AD as52q) := slices_ContainsFunc_int64__lim_isRow_fn1__lim_isLimit k d.1
def R52q : Nat × Entry := (126, fun k nm args h => entry as52q rs52q (s52q k) pk52q nm args h)
theorem ev52q (k : Nat) (d : AD as52q) : evF E52q A52q k 1000 0 Proofs.Tryz.f126 (absArgs as52q d).1 (absArgs as52q d).2 (outM rs52q up52q) = s52q k d := by
  obtain ⟨_, _, _⟩ := d
  kernel_rfl
theorem F52q : FnOK Proofs.Tryz.prog R52q := fn_b (E := E52q) (A := A52q) (na := 0) (fn := Proofs.Tryz.f126) (S := s52q) (unpack := up52q) B52q (by kernel_rfl) (loopsOK_none (by kernel_rfl)) (by kernel_rfl) (by kernel_rfl) (fun _ => rfl) ev52q

/-! ### giro/lim.isRow -/
noncomputable def E53q : Env := ⟨Proofs.Tryz.prog, fun _ => false, sumsOf [R52q]⟩
def A53q : Notes := ⟨[], []⟩
theorem B53q : EnvB E53q := env_n mixed_orders ⟨F52q, trivial⟩
def as53q : List AS := [.c (.dat false (.int .i64)), .c (.int .i64), .c (.fn 103)]
def rs53q : RS := .c (.bool)
def pk53q : Bool → RL rs53q.cells := fun x => (x, ())
def up53q : RL rs53q.cells → Bool := fun d => d.1
def s53q (k : Nat) (d : AD as53q) := lim_isRow__lim_isLimit k d.1 d.2.1
def R53q : Nat × Entry := (104, fun k nm args h => entry as53q rs53q (s53q k) pk53q nm args h)
theorem ev53q (k : Nat) (d : AD as53q) : evF E53q A53q k 1000 0 Proofs.Tryz.f104 (absArgs as53q d).1 (absArgs as53q d).2 (outM rs53q up53q) = s53q k d := by
  obtain ⟨_, _, _, _⟩ := d
  kernel_rfl
theorem F53q : FnOK Proofs.Tryz.prog R53q := fn_b (E := E53q) (A := A53q) (na := 0) (fn := Proofs.Tryz.f104) (S := s53q) (unpack := up53q) B53q (by kernel_rfl) (loopsOK_none (by kernel_rfl)) (by kernel_rfl) (by kernel_rfl) (fun _ => rfl) ev53q

/-! ### giro/lim.isSquare -/
noncomputable def E54q : Env := ⟨Proofs.Tryz.prog, fun _ => false, sumsOf [R53q]⟩
def I54_0q : Spec := ⟨[(1, .c (.int .i64)), (2, .c (.lit (.fn 103 []))), (13, .c (.dat false (.sl (.int .i64)))), (14, .c (.int .i64)), (15, .c (.int .i64))], [], []⟩
def X0_54_0q : Spec := ⟨[], [], []⟩
def X1_54_0q : Spec := ⟨[(6, .c (.bool))], [], []⟩
def O54_0q : List (Ex × Spec) := [(.exit 0, X0_54_0q), (.ret, X1_54_0q)]
def c54_0q (f : lim_isSquare__lim_isLimit_L0T) (d : I54_0q.den) : Option (Unit ⊕ Bool) := f d.1.1.1 d.1.2.2.1.1 d.1.2.2.2.1.1 d.1.2.2.2.2.1.1
def T54_0q : OutD O54_0q → (Unit ⊕ Bool)
 | .inl d => .inl ()
 | .inr d => .inr d.1.1.1
def e54_0q (base : Nat) (x : (Unit ⊕ Bool)) (R : Type) (K : Ex → St → Option R) : Option R := match x with
 | .inl x => K (.exit 0) (stOf base X0_54_0q ((), ()))
 | .inr x => K .ret (stOf base X1_54_0q (((x, ()), ()), ()))
def L54_0q : LoopSum := ⟨I54_0q, O54_0q, (Unit ⊕ Bool), fun k d => c54_0q (lim_isSquare__lim_isLimit_L0 k k) d, e54_0q⟩
def A54q : Notes := ⟨[], [(4, L54_0q)]⟩
theorem B54q : EnvB E54q := env_n mixed_orders ⟨F53q, trivial⟩
theorem st54_0q (k : Nat) (rec : lim_isSquare__lim_isLimit_L0T) (d : I54_0q.den) : c54_0q (lim_isSquare__lim_isLimit_L0b k rec) d = evC E54q A54q k 1000 0 25 (loopAt (bodyOf Proofs.Tryz.f102) 0) (stOf (1000 + loopBase) I54_0q d) (roundK 1000 I54_0q O54_0q T54_0q (c54_0q rec)) := by
  obtain ⟨⟨⟨_, _⟩, _, ⟨_, _⟩, ⟨_, _⟩, ⟨_, _⟩, _⟩, _⟩ := d
  kernel_rfl
theorem lk54_0q : LoopOK Proofs.Tryz.prog 1000 0 25 (loopAt (bodyOf Proofs.Tryz.f102) 0) L54_0q :=
  loop_b (A := A54q) (inS := I54_0q) (outs := O54_0q) B54q (loopsOK_none (by kernel_rfl)) T54_0q e54_0q (by intro o R K; rcases o with o | o <;> rfl) (fun k n d => c54_0q (lim_isSquare__lim_isLimit_L0 k n) d) (fun _ _ => rfl) (fun k n d => st54_0q k (lim_isSquare__lim_isLimit_L0 k n) d)
def as54q : List AS := [.c (.dat false (.sl (.int .i64))), .c (.int .i64), .c (.fn 103)]
def rs54q : RS := .c (.bool)
def pk54q : Bool → RL rs54q.cells := fun x => (x, ())
def up54q : RL rs54q.cells → Bool := fun d => d.1
def s54q (k : Nat) (d : AD as54q) := lim_isSquare__lim_isLimit k d.1 d.2.1
def R54q : Nat × Entry := (102, fun k nm args h => entry as54q rs54q (s54q k) pk54q nm args h)
theorem ev54q (k : Nat) (d : AD as54q) : evF E54q A54q k 1000 0 Proofs.Tryz.f102 (absArgs as54q d).1 (absArgs as54q d).2 (outM rs54q up54q) = s54q k d := by
  obtain ⟨_, _, _, _⟩ := d
  kernel_rfl
theorem F54q : FnOK Proofs.Tryz.prog R54q := fn_b (E := E54q) (A := A54q) (na := 0) (fn := Proofs.Tryz.f102) (S := s54q) (unpack := up54q) B54q (by kernel_rfl) (loopsOK_of (n := 1) (by kernel_rfl) fun i hi => match i, hi with | 0, _ => ⟨L54_0q, by kernel_rfl, lk54_0q⟩ | i + 1, hi => absurd hi (by omega)) (by kernel_rfl) (by kernel_rfl) (fun _ => rfl) ev54q

/-! ### giro/lim.isNet -/
noncomputable def E55q : Env := ⟨Proofs.Tryz.prog, fun _ => false, sumsOf []⟩
def A55q : Notes := ⟨[], []⟩
theorem B55q : EnvB E55q := env_n mixed_orders trivial
def as55q : List AS := [.c (.int .i64)]
def rs55q : RS := .c (.bool)
def pk55q : Bool → RL rs55q.cells := fun x => (x, ())
def up55q : RL rs55q.cells → Bool := fun d => d.1
def s55q (k : Nat) (d : AD as55q) := lim_isNet k d.1
def R55q : Nat × Entry := (105, fun k nm args h => entry as55q rs55q (s55q k) pk55q nm args h)
theorem ev55q (k : Nat) (d : AD as55q) : evF E55q A55q k 1000 0 Proofs.Tryz.f105 (absArgs as55q d).1 (absArgs as55q d).2 (outM rs55q up55q) = s55q k d := by
  obtain ⟨_, _⟩ := d
  kernel_rfl
theorem F55q : FnOK Proofs.Tryz.prog R55q := fn_b (E := E55q) (A := A55q) (na := 0) (fn := Proofs.Tryz.f105) (S := s55q) (unpack := up55q) B55q (by kernel_rfl) (loopsOK_none (by kernel_rfl)) (by kernel_rfl) (by kernel_rfl) (fun _ => rfl) ev55q

/-! ### giro/lim.isRow$1 -/
noncomputable def E56q : Env := ⟨Proofs.Tryz.prog, fun _ => false, sumsOf [R55q]⟩
def A56q : Notes := ⟨[], []⟩
theorem B56q : EnvB E56q := env_n mixed_orders ⟨F55q, trivial⟩
def as56q : List AS := [.c (.int .i64), .ptr [.fn 105]]
def rs56q : RS := .c (.bool)
def pk56q : Bool → RL rs56q.cells := fun x => (x, ())
def up56q : RL rs56q.cells → Bool := fun d => d.1
def s56q (k : Nat) (d : AD as56q) := lim_isRow_fn1__lim_isNet k d.1
def R56q : Nat × Entry := (127, fun k nm args h => entry as56q rs56q (s56q k) pk56q nm args h)
theorem ev56q (k : Nat) (d : AD as56q) : evF E56q A56q k 1000 0 Proofs.Tryz.f127 (absArgs as56q d).1 (absArgs as56q d).2 (outM rs56q up56q) = s56q k d := by
  obtain ⟨_, _, _⟩ := d
  kernel_rfl
theorem F56q : FnOK Proofs.Tryz.prog R56q := fn_b (E := E56q) (A := A56q) (na := 0) (fn := Proofs.Tryz.f127) (S := s56q) (unpack := up56q) B56q (by kernel_rfl) (loopsOK_none (by kernel_rfl)) (by kernel_rfl) (by kernel_rfl) (fun _ => rfl) ev56q

/-! ### slices.IndexFunc[[]int64,int64] -/
noncomputable def E57q : Env := ⟨Proofs.Tryz.prog, fun _ => false, sumsOf [R56q]⟩
def I57_0q : Spec := ⟨[(0, .c (.dat false (.int .i64))), (1, .c (.lit (.fn 127 [1001000]))), (7, .c (.int .i64)), (8, .c (.int .i64))], [.robox [.lit (.fn 105 [])]], []⟩
def X0_57_0q : Spec := ⟨[], [], []⟩
def X1_57_0q : Spec := ⟨[(4, .c (.int .i64))], [], []⟩
def O57_0q : List (Ex × Spec) := [(.exit 0, X0_57_0q), (.ret, X1_57_0q)]
def c57_0q (f : slices_IndexFunc_int64__lim_isRow_fn1__lim_isNet_L0T) (d : I57_0q.den) : Option (Unit ⊕ Int) := f d.1.1.1 d.1.2.2.1.1 d.1.2.2.2.1.1
def T57_0q : OutD O57_0q → (Unit ⊕ Int)
 | .inl d => .inl ()
 | .inr d => .inr d.1.1.1
def e57_0q (base : Nat) (x : (Unit ⊕ Int)) (R : Type) (K : Ex → St → Option R) : Option R := match x with
 | .inl x => K (.exit 0) (stOf base X0_57_0q ((), ()))
 | .inr x => K .ret (stOf base X1_57_0q (((x, ()), ()), ()))
def L57_0q : LoopSum := ⟨I57_0q, O57_0q, (Unit ⊕ Int), fun k d => c57_0q (slices_IndexFunc_int64__lim_isRow_fn1__lim_isNet_L0 k k) d, e57_0q⟩
def A57q : Notes := ⟨[], [(2, L57_0q)]⟩
theorem B57q : EnvB E57q := env_n mixed_orders ⟨F56q, trivial⟩
theorem st57_0q (k : Nat) (rec : slices_IndexFunc_int64__lim_isRow_fn1__lim_isNet_L0T) (d : I57_0q.den) : c57_0q (slices_IndexFunc_int64__lim_isRow_fn1__lim_isNet_L0b k rec) d = evC E57q A57q k 1000 0 19 (loopAt (bodyOf Proofs.Tryz.f130) 0) (stOf (1000 + loopBase) I57_0q d) (roundK 1000 I57_0q O57_0q T57_0q (c57_0q rec)) := by
  obtain ⟨⟨⟨_, _⟩, _, ⟨_, _⟩, ⟨_, _⟩, _⟩, ⟨_, _⟩⟩ := d
  kernel_rfl
theorem lk57_0q : LoopOK Proofs.Tryz.prog 1000 0 19 (loopAt (bodyOf Proofs.Tryz.f130) 0) L57_0q :=
  loop_b (A := A57q) (inS := I57_0q) (outs := O57_0q) B57q (loopsOK_none (by kernel_rfl)) T57_0q e57_0q (by intro o R K; rcases o with o | o <;> rfl) (fun k n d => c57_0q (slices_IndexFunc_int64__lim_isRow_fn1__lim_isNet_L0 k n) d) (fun _ _ => rfl) (fun k n d => st57_0q k (slices_IndexFunc_int64__lim_isRow_fn1__lim_isNet_L0 k n) d)
def as57q : List AS := [.c (.dat false (.int .i64)), .fn 127 [[.fn 105]]]
def rs57q : RS := .c (.int .i64)
def pk57q : Int → RL rs57q.cells := fun x => (x, ())
def up57q : RL rs57q.cells → Int := fun d => d.1
def s57q (k : Nat) (d : AD as57q) := slices_IndexFunc_int64__lim_isRow_fn1__lim_isNet k d.1
def R57q : Nat × Entry := (130, fun k nm args h => entry as57q rs57q (s57q k) pk57q nm args h)
theorem ev57q (k : Nat) (d : AD as57q) : evF E57q A57q k 1000 0 Proofs.Tryz.f130 (absArgs as57q d).1 (absArgs as57q d).2 (outM rs57q up57q) = s57q k d := by
  obtain ⟨_, _, _⟩ := d
  kernel_rfl
theorem F57q : FnOK Proofs.Tryz.prog R57q := fn_b (E := E57q) (A := A57q) (na := 0) (fn := Proofs.Tryz.f130) (S := s57q) (unpack := up57q) B57q (by kernel_rfl) (loopsOK_of (n := 1) (by kernel_rfl) fun i hi => match i, hi with | 0, _ => ⟨L57_0q, by kernel_rfl, lk57_0q⟩ | i + 1, hi => absurd hi (by omega)) (by kernel_rfl) (by kernel_rfl) (fun _ => rfl) ev57q

/-! ### slices.ContainsFunc[[]int64,int64] -/
noncomputable def E58q : Env := ⟨Proofs.Tryz.prog, fun _ => false, sumsOf [R57q]⟩
def A58q : Notes := ⟨[], []⟩
theorem B58q : EnvB E58q := env_n mixed_orders ⟨F57q, trivial⟩
def as58q : List AS := [.c (.dat false (.int .i64)), .fn 127 [[.fn 105]]]
def rs58q : RS := .c (.bool)
def pk58q : Bool → RL rs58q.cells := fun x => (x, ())
def up58q : RL rs58q.cells → Bool := fun d => d.1
def s58q (k : Nat) (d : AD as58q) := slices_ContainsFunc_int64__lim_isRow_fn1__lim_isNet k d.1
def R58q : Nat × Entry := (126, fun k nm args h => entry as58q rs58q (s58q k) pk58q nm args h)
theorem ev58q (k : Nat) (d : AD as58q) : evF E58q A58q k 1000 0 Proofs.Tryz.f126 (absArgs as58q d).1 (absArgs as58q d).2 (outM rs58q up58q) = s58q k d := by
  obtain ⟨_, _, _⟩ := d
  kernel_rfl
theorem F58q : FnOK Proofs.Tryz.prog R58q := fn_b (E := E58q) (A := A58q) (na := 0) (fn := Proofs.Tryz.f126) (S := s58q) (unpack := up58q) B58q (by kernel_rfl) (loopsOK_none (by kernel_rfl)) (by kernel_rfl) (by kernel_rfl) (fun _ => rfl) ev58q

/-! ### giro/lim.isRow -/
noncomputable def E59q : Env := ⟨Proofs.Tryz.prog, fun _ => false, sumsOf [R58q]⟩
def A59q : Notes := ⟨[], []⟩
theorem B59q : EnvB E59q := env_n mixed_orders ⟨F58q, trivial⟩
def as59q : List AS := [.c (.dat false (.int .i64)), .c (.int .i64), .c (.fn 105)]
def rs59q : RS := .c (.bool)
def pk59q : Bool → RL rs59q.cells := fun x => (x, ())
def up59q : RL rs59q.cells → Bool := fun d => d.1
def s59q (k : Nat) (d : AD as59q) := lim_isRow__lim_isNet k d.1 d.2.1
def R59q : Nat × Entry := (104, fun k nm args h => entry as59q rs59q (s59q k) pk59q nm args h)
theorem ev59q (k : Nat) (d : AD as59q) : evF E59q A59q k 1000 0 Proofs.Tryz.f104 (absArgs as59q d).1 (absArgs as59q d).2 (outM rs59q up59q) = s59q k d := by
  obtain ⟨_, _, _, _⟩ := d
  kernel_rfl
theorem F59q : FnOK Proofs.Tryz.prog R59q := fn_b (E := E59q) (A := A59q) (na := 0) (fn := Proofs.Tryz.f104) (S := s59q) (unpack := up59q) B59q (by kernel_rfl) (loopsOK_none (by kernel_rfl)) (by kernel_rfl) (by kernel_rfl) (fun _ => rfl) ev59q

/-! ### giro/lim.isSquare -/
noncomputable def E60q : Env := ⟨Proofs.Tryz.prog, fun _ => false, sumsOf [R59q]⟩
def I60_0q : Spec := ⟨[(1, .c (.int .i64)), (2, .c (.lit (.fn 105 []))), (13, .c (.dat false (.sl (.int .i64)))), (14, .c (.int .i64)), (15, .c (.int .i64))], [], []⟩
def X0_60_0q : Spec := ⟨[], [], []⟩
def X1_60_0q : Spec := ⟨[(6, .c (.bool))], [], []⟩
def O60_0q : List (Ex × Spec) := [(.exit 0, X0_60_0q), (.ret, X1_60_0q)]
def c60_0q (f : lim_isSquare__lim_isNet_L0T) (d : I60_0q.den) : Option (Unit ⊕ Bool) := f d.1.1.1 d.1.2.2.1.1 d.1.2.2.2.1.1 d.1.2.2.2.2.1.1
def T60_0q : OutD O60_0q → (Unit ⊕ Bool)
 | .inl d => .inl ()
 | .inr d => .inr d.1.1.1
def e60_0q (base : Nat) (x : (Unit ⊕ Bool)) (R : Type) (K : Ex → St → Option R) : Option R := match x with
 | .inl x => K (.exit 0) (stOf base X0_60_0q ((), ()))
 | .inr x => K .ret (stOf base X1_60_0q (((x, ()), ()), ()))
def L60_0q : LoopSum := ⟨I60_0q, O60_0q, (Unit ⊕ Bool), fun k d => c60_0q (lim_isSquare__lim_isNet_L0 k k) d, e60_0q⟩
def A60q : Notes := ⟨[], [(4, L60_0q)]⟩
theorem B60q : EnvB E60q := env_n mixed_orders ⟨F59q, trivial⟩
theorem st60_0q (k : Nat) (rec : lim_isSquare__lim_isNet_L0T) (d : I60_0q.den) : c60_0q (lim_isSquare__lim_isNet_L0b k rec) d = evC E60q A60q k 1000 0 25 (loopAt (bodyOf Proofs.Tryz.f102) 0) (stOf (1000 + loopBase) I60_0q d) (roundK 1000 I60_0q O60_0q T60_0q (c60_0q rec)) := by
  obtain ⟨⟨⟨_, _⟩, _, ⟨_, _⟩, ⟨_, _⟩, ⟨_, _⟩, _⟩, _⟩ := d
  kernel_rfl
theorem lk60_0q : LoopOK Proofs.Tryz.prog 1000 0 25 (loopAt (bodyOf Proofs.Tryz.f102) 0) L60_0q :=
  loop_b (A := A60q) (inS := I60_0q) (outs := O60_0q) B60q (loopsOK_none (by kernel_rfl)) T60_0q e60_0q (by intro o R K; rcases o with o | o <;> rfl) (fun k n d => c60_0q (lim_isSquare__lim_isNet_L0 k n) d) (fun _ _ => rfl) (fun k n d => st60_0q k (lim_isSquare__lim_isNet_L0 k n) d)
def as60q : List AS := [.c (.dat false (.sl (.int .i64))), .c (.int .i64), .c (.fn 105)]
def rs60q : RS := .c (.bool)
def pk60q : Bool → RL rs60q.cells := fun x => (x, ())
def up60q : RL rs60q.cells → Bool := fun d => d.1
def s60q (k : Nat) (d : AD as60q) := lim_isSquare__lim_isNet k d.1 d.2.1
def R60q : Nat × Entry := (102, fun k nm args h => entry as60q rs60q (s60q k) pk60q nm args h)
theorem ev60q (k : Nat) (d : AD as60q) : evF E60q A60q k 1000 0 Proofs.Tryz.f102 (absArgs as60q d).1 (absArgs as60q d).2 (outM rs60q up60q) = s60q k d := by
  obtain ⟨_, _, _, _⟩ := d
  kernel_rfl
theorem F60q : FnOK Proofs.Tryz.prog R60q := fn_b (E := E60q) (A := A60q) (na := 0) (fn := Proofs.Tryz.f102) (S := s60q) (unpack := up60q) B60q (by kernel_rfl) (loopsOK_of (n := 1) (by kernel_rfl) fun i hi => match i, hi with | 0, _ => ⟨L60_0q, by kernel_rfl, lk60_0q⟩ | i + 1, hi => absurd hi (by omega)) (by kernel_rfl) (by kernel_rfl) (fun _ => rfl) ev60q

/-! ### giro/lim.isTurned -/
noncomputable def E61q : Env := ⟨Proofs.Tryz.prog, fun _ => false, sumsOf []⟩
def I61_0q : Spec := ⟨[(0, .c (.dat false (.sl (.int .i64)))), (3, .c (.int .i64)), (7, .c (.dat false (.sl (.int .i64)))), (8, .c (.int .i64)), (9, .c (.int .i64)), (14, .c (.dat false (.int .i64))), (15, .c (.int .i64)), (16, .c (.int .i64))], [], []⟩
def X0_61_0q : Spec := ⟨[(0, .c (.dat false (.sl (.int .i64)))), (7, .c (.dat false (.sl (.int .i64)))), (8, .c (.int .i64)), (9, .c (.int .i64))], [], []⟩
def X1_61_0q : Spec := ⟨[(2, .c (.bool))], [], []⟩
def O61_0q : List (Ex × Spec) := [(.exit 2, X0_61_0q), (.ret, X1_61_0q)]
def c61_0q (f : lim_isTurned_L1T) (d : I61_0q.den) : Option lim_isTurned_L1X := f d.1.1.1 d.1.2.1.1 d.1.2.2.1.1 d.1.2.2.2.1.1 d.1.2.2.2.2.1.1 d.1.2.2.2.2.2.1.1 d.1.2.2.2.2.2.2.1.1 d.1.2.2.2.2.2.2.2.1.1
def T61_0q : OutD O61_0q → lim_isTurned_L1X
 | .inl d => .inl (d.1.1.1, d.1.2.1.1, d.1.2.2.1.1, d.1.2.2.2.1.1)
 | .inr d => .inr d.1.1.1
def e61_0q (base : Nat) (x : lim_isTurned_L1X) (R : Type) (K : Ex → St → Option R) : Option R := match x with
 | .inl x => K (.exit 2) (stOf base X0_61_0q (((x.1, ()), (x.2.1, ()), (x.2.2.1, ()), (x.2.2.2, ()), ()), ()))
 | .inr x => K .ret (stOf base X1_61_0q (((x, ()), ()), ()))
def L61_0q : LoopSum := ⟨I61_0q, O61_0q, lim_isTurned_L1X, fun k d => c61_0q (lim_isTurned_L1 k k) d, e61_0q⟩
def I61_1q : Spec := ⟨[(0, .c (.dat false (.sl (.int .i64)))), (7, .c (.dat false (.sl (.int .i64)))), (8, .c (.int .i64)), (9, .c (.int .i64))], [], []⟩
def X0_61_1q : Spec := ⟨[], [], []⟩
def X1_61_1q : Spec := ⟨[(2, .c (.bool))], [], []⟩
def O61_1q : List (Ex × Spec) := [(.exit 0, X0_61_1q), (.ret, X1_61_1q)]
def c61_1q (f : lim_isTurned_L0T) (d : I61_1q.den) : Option (Unit ⊕ Bool) := f d.1.1.1 d.1.2.1.1 d.1.2.2.1.1 d.1.2.2.2.1.1
def T61_1q : OutD O61_1q → (Unit ⊕ Bool)
 | .inl d => .inl ()
 | .inr d => .inr d.1.1.1
def e61_1q (base : Nat) (x : (Unit ⊕ Bool)) (R : Type) (K : Ex → St → Option R) : Option R := match x with
 | .inl x => K (.exit 0) (stOf base X0_61_1q ((), ()))
 | .inr x => K .ret (stOf base X1_61_1q (((x, ()), ()), ()))
def L61_1q : LoopSum := ⟨I61_1q, O61_1q, (Unit ⊕ Bool), fun k d => c61_1q (lim_isTurned_L0 k k) d, e61_1q⟩
def A61q : Notes := ⟨[], [(5, L61_0q), (2, L61_1q)]⟩
theorem B61q : EnvB E61q := env_n mixed_orders trivial
theorem st61_0q (k : Nat) (rec : lim_isTurned_L1T) (d : I61_0q.den) : c61_0q (lim_isTurned_L1b k rec) d = evC E61q A61q k 1000 0 33 (loopAt (loopAt (bodyOf Proofs.Tryz.f106) 0) 0) (stOf (1000 + loopBase) I61_0q d) (roundK 1000 I61_0q O61_0q T61_0q (c61_0q rec)) := by
  obtain ⟨⟨⟨_, _⟩, ⟨_, _⟩, ⟨_, _⟩, ⟨_, _⟩, ⟨_, _⟩, ⟨_, _⟩, ⟨_, _⟩, ⟨_, _⟩, _⟩, _⟩ := d
  kernel_rfl
theorem lk61_0q : LoopOK Proofs.Tryz.prog 1000 0 33 (loopAt (loopAt (bodyOf Proofs.Tryz.f106) 0) 0) L61_0q :=
  loop_b (A := A61q) (inS := I61_0q) (outs := O61_0q) B61q (loopsOK_none (by kernel_rfl)) T61_0q e61_0q (by intro o R K; rcases o with o | o <;> rfl) (fun k n d => c61_0q (lim_isTurned_L1 k n) d) (fun _ _ => rfl) (fun k n d => st61_0q k (lim_isTurned_L1 k n) d)
theorem st61_1q (k : Nat) (rec : lim_isTurned_L0T) (d : I61_1q.den) : c61_1q (lim_isTurned_L0b k rec) d = evC E61q A61q k 1000 0 33 (loopAt (bodyOf Proofs.Tryz.f106) 0) (stOf (1000 + loopBase) I61_1q d) (roundK 1000 I61_1q O61_1q T61_1q (c61_1q rec)) := by
  obtain ⟨⟨⟨_, _⟩, ⟨_, _⟩, ⟨_, _⟩, ⟨_, _⟩, _⟩, _⟩ := d
  kernel_rfl
theorem lk61_1q : LoopOK Proofs.Tryz.prog 1000 0 33 (loopAt (bodyOf Proofs.Tryz.f106) 0) L61_1q :=
  loop_b (A := A61q) (inS := I61_1q) (outs := O61_1q) B61q (loopsOK_of (n := 1) (by kernel_rfl) fun i hi => match i, hi with | 0, _ => ⟨L61_0q, by kernel_rfl, lk61_0q⟩ | i + 1, hi => absurd hi (by omega)) T61_1q e61_1q (by intro o R K; rcases o with o | o <;> rfl) (fun k n d => c61_1q (lim_isTurned_L0 k n) d) (fun _ _ => rfl) (fun k n d => st61_1q k (lim_isTurned_L0 k n) d)
def as61q : List AS := [.c (.dat false (.sl (.int .i64)))]
def rs61q : RS := .c (.bool)
def pk61q : Bool → RL rs61q.cells := fun x => (x, ())
def up61q : RL rs61q.cells → Bool := fun d => d.1
def s61q (k : Nat) (d : AD as61q) := lim_isTurned k d.1
def R61q : Nat × Entry := (106, fun k nm args h => entry as61q rs61q (s61q k) pk61q nm args h)
theorem ev61q (k : Nat) (d : AD as61q) : evF E61q A61q k 1000 0 Proofs.Tryz.f106 (absArgs as61q d).1 (absArgs as61q d).2 (outM rs61q up61q) = s61q k d := by
  obtain ⟨_, _⟩ := d
  kernel_rfl
theorem F61q : FnOK Proofs.Tryz.prog R61q := fn_b (E := E61q) (A := A61q) (na := 0) (fn := Proofs.Tryz.f106) (S := s61q) (unpack := up61q) B61q (by kernel_rfl) (loopsOK_of (n := 1) (by kernel_rfl) fun i hi => match i, hi with | 0, _ => ⟨L61_1q, by kernel_rfl, lk61_1q⟩ | i + 1, hi => absurd hi (by omega)) (by kernel_rfl) (by kernel_rfl) (fun _ => rfl) ev61q

/-! ### giro/lim.Is -/
noncomputable def E62q : Env := ⟨Proofs.Tryz.prog, fun _ => false, sumsOf [R48q, R54q, R53q, R60q, R61q]⟩
def A62q : Notes := ⟨[], []⟩
theorem B62q : EnvB E62q := env_n mixed_orders ⟨F48q, F54q, F53q, F60q, F61q, trivial⟩
def as62q : List AS := [.agg [.dat false y3q, .dat false (.sl (.int .i64)), .dat false (.int .i64), .dat false (.sl (.int .i64))]]
def rs62q : RS := .c (.bool)
def pk62q : Bool → RL rs62q.cells := fun x => (x, ())
def up62q : RL rs62q.cells → Bool := fun d => d.1
def s62q (k : Nat) (d : AD as62q) := lim_Is k d.1 d.2.1 d.2.2.1 d.2.2.2.1
def R62q : Nat × Entry := (76, fun k nm args h => entry as62q rs62q (s62q k) pk62q nm args h)
theorem ev62q (k : Nat) (d : AD as62q) : evF E62q A62q k 1000 0 Proofs.Tryz.f76 (absArgs as62q d).1 (absArgs as62q d).2 (outM rs62q up62q) = s62q k d := by
  obtain ⟨_, _, _, _, _⟩ := d
  kernel_rfl
theorem F62q : FnOK Proofs.Tryz.prog R62q := fn_b (E := E62q) (A := A62q) (na := 0) (fn := Proofs.Tryz.f76) (S := s62q) (unpack := up62q) B62q (by kernel_rfl) (loopsOK_none (by kernel_rfl)) (by kernel_rfl) (by kernel_rfl) (fun _ => rfl) ev62q

/-! ### giro/post.Post -/
noncomputable def E63q : Env := ⟨Proofs.Tryz.prog, fun _ => false, sumsOf [R39q, R44q, R30q, R62q]⟩
def I63_0q : Spec := ⟨[(2, .c (.lit (.ptr 1001000 0))), (4, .c (.lit (.ptr 1001001 0))), (7, .c (.lit (.ptr 1001002 0))), (24, .c (.dat false y7q)), (25, .c (.int .i64)), (26, .c (.int .i64))], [.box true [.dat true y3q, .dat true (.sl (.int .i64)), .dat true (.int .i64), .dat true (.sl (.int .i64))], .box true [.lit .nsl, .lit .nsl, .lit .nsl, .lit .nsl], .box true [.lit (.osl 1001003 none), .lit (.osl 1001004 none), .lit (.osl 1001005 none), .lit (.osl 1001006 none)], .arr true y3q, .mat, .arr true (.int .i64), .mat], []⟩
def X0_63_0q : Spec := ⟨[(2, .c (.lit (.ptr 1001000 0))), (4, .c (.lit (.ptr 1001001 0))), (7, .c (.lit (.ptr 1001002 0)))], [.box true [.dat true y3q, .dat true (.sl (.int .i64)), .dat true (.int .i64), .dat true (.sl (.int .i64))], .box true [.lit .nsl, .lit .nsl, .lit .nsl, .lit .nsl], .box true [.lit (.osl 1001003 none), .lit (.osl 1001004 none), .lit (.osl 1001005 none), .lit (.osl 1001006 none)], .arr true y3q, .mat, .arr true (.int .i64), .mat], []⟩
def O63_0q : List (Ex × Spec) := [(.exit 0, X0_63_0q)]
def c63_0q (f : post_Post_L0T) (d : I63_0q.den) : Option post_Post_L0X := f d.1.2.2.2.1.1 d.1.2.2.2.2.1.1 d.1.2.2.2.2.2.1.1 d.2.1.1 d.2.1.2.1 d.2.1.2.2.1 d.2.1.2.2.2.1 d.2.2.2.2.1 d.2.2.2.2.2.1 d.2.2.2.2.2.2.1 d.2.2.2.2.2.2.2.1
def T63_0q : OutD O63_0q → post_Post_L0X := fun d => (d.2.1.1, d.2.1.2.1, d.2.1.2.2.1, d.2.1.2.2.2.1, d.2.2.2.2.1, d.2.2.2.2.2.1, d.2.2.2.2.2.2.1, d.2.2.2.2.2.2.2.1)
def e63_0q (base : Nat) (x : post_Post_L0X) (R : Type) (K : Ex → St → Option R) : Option R := K (.exit 0) (stOf base X0_63_0q (((), (), (), ()), ((x.1, x.2.1, x.2.2.1, x.2.2.2.1, ()), (), (), x.2.2.2.2.1, x.2.2.2.2.2.1, x.2.2.2.2.2.2.1, x.2.2.2.2.2.2.2, ())))
def L63_0q : LoopSum := ⟨I63_0q, O63_0q, post_Post_L0X, fun k d => c63_0q (post_Post_L0 k k) d, e63_0q⟩
def A63q : Notes := ⟨[], [(6, L63_0q)]⟩
theorem B63q : EnvB E63q := env_n mixed_orders ⟨F39q, F44q, F30q, F62q, trivial⟩
theorem st63_0q (k : Nat) (rec : post_Post_L0T) (d : I63_0q.den) : c63_0q (post_Post_L0b k rec) d = evC E63q A63q k 1000 0 104 (loopAt (bodyOf Proofs.Tryz.f43) 0) (stOf (1000 + loopBase) I63_0q d) (roundK 1000 I63_0q O63_0q T63_0q (c63_0q rec)) := by
  obtain ⟨⟨_, _, _, ⟨_, _⟩, ⟨_, _⟩, ⟨_, _⟩, _⟩, ⟨⟨_, _, _, _, _⟩, _, _, _, _, _, _, _⟩⟩ := d
  kernel_rfl
theorem lk63_0q : LoopOK Proofs.Tryz.prog 1000 0 104 (loopAt (bodyOf Proofs.Tryz.f43) 0) L63_0q :=
  loop_b (A := A63q) (inS := I63_0q) (outs := O63_0q) B63q (loopsOK_none (by kernel_rfl)) T63_0q e63_0q (fun _ _ _ => rfl) (fun k n d => c63_0q (post_Post_L0 k n) d) (fun _ _ => rfl) (fun k n d => st63_0q k (post_Post_L0 k n) d)
def as63q : List AS := [.agg [.dat true y3q, .dat true (.sl (.int .i64)), .dat true (.int .i64), .dat true (.sl (.int .i64))], .c (.dat false y7q)]
def rs63q : RS := .tup [(true, [.fro y3q, .fro (.sl (.int .i64)), .fro (.int .i64), .fro (.sl (.int .i64))]), (false, [.int .i64])]
def pk63q : (List K2q) × (List (List Int)) × (List Int) × (List (List Int)) × Int → RL rs63q.cells := fun x => (x.1, x.2.1, x.2.2.1, x.2.2.2.1, x.2.2.2.2, ())
def up63q : RL rs63q.cells → (List K2q) × (List (List Int)) × (List Int) × (List (List Int)) × Int := fun d => (d.1, d.2.1, d.2.2.1, d.2.2.2.1, d.2.2.2.2.1)
def s63q (k : Nat) (d : AD as63q) := post_Post k d.1 d.2.1 d.2.2.1 d.2.2.2.1 d.2.2.2.2.1
def R63q : Nat × Entry := (43, fun k nm args h => entry as63q rs63q (s63q k) pk63q nm args h)
theorem ev63q (k : Nat) (d : AD as63q) : evF E63q A63q k 1000 0 Proofs.Tryz.f43 (absArgs as63q d).1 (absArgs as63q d).2 (outM rs63q up63q) = s63q k d := by
  obtain ⟨_, _, _, _, _, _⟩ := d
  kernel_rfl
theorem F63q : FnOK Proofs.Tryz.prog R63q := fn_b (E := E63q) (A := A63q) (na := 0) (fn := Proofs.Tryz.f43) (S := s63q) (unpack := up63q) B63q (by kernel_rfl) (loopsOK_of (n := 1) (by kernel_rfl) fun i hi => match i, hi with | 0, _ => ⟨L63_0q, by kernel_rfl, lk63_0q⟩ | i + 1, hi => absurd hi (by omega)) (by kernel_rfl) (by kernel_rfl) (fun _ => rfl) ev63q

/-! ### giro/free.next -/
noncomputable def E64q : Env := ⟨Proofs.Tryz.prog, fun _ => false, sumsOf [R16q, R36q, R63q]⟩
def I64_0q : Spec := ⟨[(3, .c (.lit (.ptr 1001000 0))), (6, .c (.lit (.ptr 1001001 0))), (7, .c (.lit (.ptr 1001002 0))), (15, .c (.lit (.osl 1001003 none))), (16, .c (.int .i64)), (17, .c (.int .i64))], [.box true [.dat true y3q, .dat true (.sl (.int .i64)), .dat true (.int .i64), .dat true (.sl (.int .i64))], .box true [.int .i64, .int .i64, .int .i64, .int .i64, .int .i64, .int .i64, .int .i64], .box true [.lit .nsl, .lit .nsl, .lit .nsl, .lit .nsl], .arr true y7q], []⟩
def X0_64_0q : Spec := ⟨[(3, .c (.lit (.ptr 1001000 0))), (6, .c (.lit (.ptr 1001001 0))), (7, .c (.lit (.ptr 1001002 0)))], [.box true [.dat true y3q, .dat true (.sl (.int .i64)), .dat true (.int .i64), .dat true (.sl (.int .i64))], .box true [.int .i64, .int .i64, .int .i64, .int .i64, .int .i64, .int .i64, .int .i64], .box true [.lit .nsl, .lit .nsl, .lit .nsl, .lit .nsl]], []⟩
def X1_64_0q : Spec := ⟨[(6, .c (.lit (.ptr 1001000 0))), (7, .c (.lit (.ptr 1001001 0))), (8, .c (.bool))], [.box true [.int .i64, .int .i64, .int .i64, .int .i64, .int .i64, .int .i64, .int .i64], .box true [.dat true y3q, .dat true (.sl (.int .i64)), .dat true (.int .i64), .dat true (.sl (.int .i64))]], []⟩
def O64_0q : List (Ex × Spec) := [(.exit 0, X0_64_0q), (.ret, X1_64_0q)]
def c64_0q (f : free_next_L0T) (d : I64_0q.den) : Option free_next_L0X := f d.1.2.2.2.2.1.1 d.1.2.2.2.2.2.1.1 d.2.1.1 d.2.1.2.1 d.2.1.2.2.1 d.2.1.2.2.2.1 d.2.2.1.1 d.2.2.1.2.1 d.2.2.1.2.2.1 d.2.2.1.2.2.2.1 d.2.2.1.2.2.2.2.1 d.2.2.1.2.2.2.2.2.1 d.2.2.1.2.2.2.2.2.2.1 d.2.2.2.2.1
def T64_0q : OutD O64_0q → free_next_L0X
 | .inl d => .inl (d.2.1.1, d.2.1.2.1, d.2.1.2.2.1, d.2.1.2.2.2.1, d.2.2.1.1, d.2.2.1.2.1, d.2.2.1.2.2.1, d.2.2.1.2.2.2.1, d.2.2.1.2.2.2.2.1, d.2.2.1.2.2.2.2.2.1, d.2.2.1.2.2.2.2.2.2.1)
 | .inr d => .inr (d.1.2.2.1.1, d.2.1.1, d.2.1.2.1, d.2.1.2.2.1, d.2.1.2.2.2.1, d.2.1.2.2.2.2.1, d.2.1.2.2.2.2.2.1, d.2.1.2.2.2.2.2.2.1, d.2.2.1.1, d.2.2.1.2.1, d.2.2.1.2.2.1, d.2.2.1.2.2.2.1)
def e64_0q (base : Nat) (x : free_next_L0X) (R : Type) (K : Ex → St → Option R) : Option R := match x with
 | .inl x => K (.exit 0) (stOf base X0_64_0q (((), (), (), ()), ((x.1, x.2.1, x.2.2.1, x.2.2.2.1, ()), (x.2.2.2.2.1, x.2.2.2.2.2.1, x.2.2.2.2.2.2.1, x.2.2.2.2.2.2.2.1, x.2.2.2.2.2.2.2.2.1, x.2.2.2.2.2.2.2.2.2.1, x.2.2.2.2.2.2.2.2.2.2, ()), (), ())))
 | .inr x => K .ret (stOf base X1_64_0q (((), (), (x.1, ()), ()), ((x.2.1, x.2.2.1, x.2.2.2.1, x.2.2.2.2.1, x.2.2.2.2.2.1, x.2.2.2.2.2.2.1, x.2.2.2.2.2.2.2.1, ()), (x.2.2.2.2.2.2.2.2.1, x.2.2.2.2.2.2.2.2.2.1, x.2.2.2.2.2.2.2.2.2.2.1, x.2.2.2.2.2.2.2.2.2.2.2, ()), ())))
def L64_0q : LoopSum := ⟨I64_0q, O64_0q, free_next_L0X, fun k d => c64_0q (free_next_L0 k k) d, e64_0q⟩
def A64q : Notes := ⟨[], [(2, L64_0q)]⟩
theorem B64q : EnvB E64q := env_n mixed_orders ⟨F16q, F36q, F63q, trivial⟩
theorem st64_0q (k : Nat) (rec : free_next_L0T) (d : I64_0q.den) : c64_0q (free_next_L0b k rec) d = evC E64q A64q k 1000 0 40 (loopAt (bodyOf Proofs.Tryz.f62) 0) (stOf (1000 + loopBase) I64_0q d) (roundK 1000 I64_0q O64_0q T64_0q (c64_0q rec)) := by
  obtain ⟨⟨_, _, _, _, ⟨_, _⟩, ⟨_, _⟩, _⟩, ⟨⟨_, _, _, _, _⟩, ⟨_, _, _, _, _, _, _, _⟩, _, _, _⟩⟩ := d
  kernel_rfl
theorem lk64_0q : LoopOK Proofs.Tryz.prog 1000 0 40 (loopAt (bodyOf Proofs.Tryz.f62) 0) L64_0q :=
  loop_b (A := A64q) (inS := I64_0q) (outs := O64_0q) B64q (loopsOK_none (by kernel_rfl)) T64_0q e64_0q (by intro o R K; rcases o with o | o <;> rfl) (fun k n d => c64_0q (free_next_L0 k n) d) (fun _ _ => rfl) (fun k n d => st64_0q k (free_next_L0 k n) d)
def as64q : List AS := [.agg [.dat true y3q, .dat true (.sl (.int .i64)), .dat true (.int .i64), .dat true (.sl (.int .i64))], .c (.dat true y7q), .c (.int .i64)]
def rs64q : RS := .tup [(true, [.int .i64, .int .i64, .int .i64, .int .i64, .int .i64, .int .i64, .int .i64]), (true, [.fro y3q, .fro (.sl (.int .i64)), .fro (.int .i64), .fro (.sl (.int .i64))]), (false, [.bool])]
def pk64q : Int × Int × Int × Int × Int × Int × Int × (List K2q) × (List (List Int)) × (List Int) × (List (List Int)) × Bool → RL rs64q.cells := fun x => (x.1, x.2.1, x.2.2.1, x.2.2.2.1, x.2.2.2.2.1, x.2.2.2.2.2.1, x.2.2.2.2.2.2.1, x.2.2.2.2.2.2.2.1, x.2.2.2.2.2.2.2.2.1, x.2.2.2.2.2.2.2.2.2.1, x.2.2.2.2.2.2.2.2.2.2.1, x.2.2.2.2.2.2.2.2.2.2.2, ())
def up64q : RL rs64q.cells → Int × Int × Int × Int × Int × Int × Int × (List K2q) × (List (List Int)) × (List Int) × (List (List Int)) × Bool := fun d => (d.1, d.2.1, d.2.2.1, d.2.2.2.1, d.2.2.2.2.1, d.2.2.2.2.2.1, d.2.2.2.2.2.2.1, d.2.2.2.2.2.2.2.1, d.2.2.2.2.2.2.2.2.1, d.2.2.2.2.2.2.2.2.2.1, d.2.2.2.2.2.2.2.2.2.2.1, d.2.2.2.2.2.2.2.2.2.2.2.1)
def s64q (k : Nat) (d : AD as64q) := free_next k d.1 d.2.1 d.2.2.1 d.2.2.2.1 d.2.2.2.2.1 d.2.2.2.2.2.1
def R64q : Nat × Entry := (62, fun k nm args h => entry as64q rs64q (s64q k) pk64q nm args h)
theorem ev64q (k : Nat) (d : AD as64q) : evF E64q A64q k 1000 0 Proofs.Tryz.f62 (absArgs as64q d).1 (absArgs as64q d).2 (outM rs64q up64q) = s64q k d := by
  obtain ⟨_, _, _, _, _, _, _⟩ := d
  kernel_rfl
theorem F64q : FnOK Proofs.Tryz.prog R64q := fn_b (E := E64q) (A := A64q) (na := 0) (fn := Proofs.Tryz.f62) (S := s64q) (unpack := up64q) B64q (by kernel_rfl) (loopsOK_of (n := 1) (by kernel_rfl) fun i hi => match i, hi with | 0, _ => ⟨L64_0q, by kernel_rfl, lk64_0q⟩ | i + 1, hi => absurd hi (by omega)) (by kernel_rfl) (by kernel_rfl) (fun _ => rfl) ev64q

/-! ### giro/row.Find$1 -/
noncomputable def E65q : Env := ⟨Proofs.Tryz.prog, fun _ => false, sumsOf []⟩
def A65q : Notes := ⟨[], []⟩
theorem B65q : EnvB E65q := env_n mixed_orders trivial
def as65q : List AS := [.agg [.int .i64, .int .i64, .int .i64, .int .i64, .int .i64, .int .i64, .int .i64], .ptr [.int .i64]]
def rs65q : RS := .c (.bool)
def pk65q : Bool → RL rs65q.cells := fun x => (x, ())
def up65q : RL rs65q.cells → Bool := fun d => d.1
def s65q (k : Nat) (d : AD as65q) := row_Find_fn1 k d.1 d.2.1 d.2.2.1 d.2.2.2.1 d.2.2.2.2.1 d.2.2.2.2.2.1 d.2.2.2.2.2.2.1 d.2.2.2.2.2.2.2.1
def R65q : Nat × Entry := (107, fun k nm args h => entry as65q rs65q (s65q k) pk65q nm args h)
theorem ev65q (k : Nat) (d : AD as65q) : evF E65q A65q k 1000 0 Proofs.Tryz.f107 (absArgs as65q d).1 (absArgs as65q d).2 (outM rs65q up65q) = s65q k d := by
  obtain ⟨_, _, _, _, _, _, _, _, _⟩ := d
  kernel_rfl
theorem F65q : FnOK Proofs.Tryz.prog R65q := fn_b (E := E65q) (A := A65q) (na := 0) (fn := Proofs.Tryz.f107) (S := s65q) (unpack := up65q) B65q (by kernel_rfl) (loopsOK_none (by kernel_rfl)) (by kernel_rfl) (by kernel_rfl) (fun _ => rfl) ev65q

/-! ### slices.IndexFunc[[]giro/api.Pay,giro/api.Pay] -/
noncomputable def E66q : Env := ⟨Proofs.Tryz.prog, fun _ => false, sumsOf [R65q]⟩
def I66_0q : Spec := ⟨[(0, .c (.dat false y7q)), (1, .c (.lit (.fn 107 [1001000]))), (7, .c (.int .i64)), (8, .c (.int .i64))], [.robox [.int .i64]], []⟩
def X0_66_0q : Spec := ⟨[], [], []⟩
def X1_66_0q : Spec := ⟨[(4, .c (.int .i64))], [], []⟩
def O66_0q : List (Ex × Spec) := [(.exit 0, X0_66_0q), (.ret, X1_66_0q)]
def c66_0q (f : slices_IndexFunc_Pay__row_Find_fn1_L0T) (d : I66_0q.den) : Option (Unit ⊕ Int) := f d.1.1.1 d.1.2.2.1.1 d.1.2.2.2.1.1 d.2.1.1
def T66_0q : OutD O66_0q → (Unit ⊕ Int)
 | .inl d => .inl ()
 | .inr d => .inr d.1.1.1
def e66_0q (base : Nat) (x : (Unit ⊕ Int)) (R : Type) (K : Ex → St → Option R) : Option R := match x with
 | .inl x => K (.exit 0) (stOf base X0_66_0q ((), ()))
 | .inr x => K .ret (stOf base X1_66_0q (((x, ()), ()), ()))
def L66_0q : LoopSum := ⟨I66_0q, O66_0q, (Unit ⊕ Int), fun k d => c66_0q (slices_IndexFunc_Pay__row_Find_fn1_L0 k k) d, e66_0q⟩
def A66q : Notes := ⟨[], [(2, L66_0q)]⟩
theorem B66q : EnvB E66q := env_n mixed_orders ⟨F65q, trivial⟩
theorem st66_0q (k : Nat) (rec : slices_IndexFunc_Pay__row_Find_fn1_L0T) (d : I66_0q.den) : c66_0q (slices_IndexFunc_Pay__row_Find_fn1_L0b k rec) d = evC E66q A66q k 1000 0 19 (loopAt (bodyOf Proofs.Tryz.f95) 0) (stOf (1000 + loopBase) I66_0q d) (roundK 1000 I66_0q O66_0q T66_0q (c66_0q rec)) := by
  obtain ⟨⟨⟨_, _⟩, _, ⟨_, _⟩, ⟨_, _⟩, _⟩, ⟨⟨_, _⟩, _⟩⟩ := d
  kernel_rfl
theorem lk66_0q : LoopOK Proofs.Tryz.prog 1000 0 19 (loopAt (bodyOf Proofs.Tryz.f95) 0) L66_0q :=
  loop_b (A := A66q) (inS := I66_0q) (outs := O66_0q) B66q (loopsOK_none (by kernel_rfl)) T66_0q e66_0q (by intro o R K; rcases o with o | o <;> rfl) (fun k n d => c66_0q (slices_IndexFunc_Pay__row_Find_fn1_L0 k n) d) (fun _ _ => rfl) (fun k n d => st66_0q k (slices_IndexFunc_Pay__row_Find_fn1_L0 k n) d)
def as66q : List AS := [.c (.dat false y7q), .fn 107 [[.int .i64]]]
def rs66q : RS := .c (.int .i64)
def pk66q : Int → RL rs66q.cells := fun x => (x, ())
def up66q : RL rs66q.cells → Int := fun d => d.1
def s66q (k : Nat) (d : AD as66q) := slices_IndexFunc_Pay__row_Find_fn1 k d.1 d.2.1
def R66q : Nat × Entry := (95, fun k nm args h => entry as66q rs66q (s66q k) pk66q nm args h)
theorem ev66q (k : Nat) (d : AD as66q) : evF E66q A66q k 1000 0 Proofs.Tryz.f95 (absArgs as66q d).1 (absArgs as66q d).2 (outM rs66q up66q) = s66q k d := by
  obtain ⟨_, _, _⟩ := d
  kernel_rfl
theorem F66q : FnOK Proofs.Tryz.prog R66q := fn_b (E := E66q) (A := A66q) (na := 0) (fn := Proofs.Tryz.f95) (S := s66q) (unpack := up66q) B66q (by kernel_rfl) (loopsOK_of (n := 1) (by kernel_rfl) fun i hi => match i, hi with | 0, _ => ⟨L66_0q, by kernel_rfl, lk66_0q⟩ | i + 1, hi => absurd hi (by omega)) (by kernel_rfl) (by kernel_rfl) (fun _ => rfl) ev66q

/-! ### giro/row.Find -/
noncomputable def E67q : Env := ⟨Proofs.Tryz.prog, fun _ => false, sumsOf [R66q]⟩
def A67q : Notes := ⟨[], []⟩
theorem B67q : EnvB E67q := env_n mixed_orders ⟨F66q, trivial⟩
def as67q : List AS := [.c (.dat false y7q), .c (.int .i64)]
def rs67q : RS := .c (.int .i64)
def pk67q : Int → RL rs67q.cells := fun x => (x, ())
def up67q : RL rs67q.cells → Int := fun d => d.1
def s67q (k : Nat) (d : AD as67q) := row_Find k d.1 d.2.1
def R67q : Nat × Entry := (77, fun k nm args h => entry as67q rs67q (s67q k) pk67q nm args h)
theorem ev67q (k : Nat) (d : AD as67q) : evF E67q A67q k 1000 0 Proofs.Tryz.f77 (absArgs as67q d).1 (absArgs as67q d).2 (outM rs67q up67q) = s67q k d := by
  obtain ⟨_, _, _⟩ := d
  kernel_rfl
theorem F67q : FnOK Proofs.Tryz.prog R67q := fn_b (E := E67q) (A := A67q) (na := 0) (fn := Proofs.Tryz.f77) (S := s67q) (unpack := up67q) B67q (by kernel_rfl) (loopsOK_none (by kernel_rfl)) (by kernel_rfl) (by kernel_rfl) (fun _ => rfl) ev67q

/-! ### slices.Clone[[]giro/api.Pay,giro/api.Pay] -/
noncomputable def E68q : Env := ⟨Proofs.Tryz.prog, fun _ => false, sumsOf []⟩
def A68q : Notes := ⟨[], []⟩
theorem B68q : EnvB E68q := env_n mixed_orders trivial
def as68q : List AS := [.c (.dat false y7q)]
def rs68q : RS := .c (.own y7q)
def pk68q : List K1q → RL rs68q.cells := fun x => (x, ())
def up68q : RL rs68q.cells → List K1q := fun d => d.1
def s68q (k : Nat) (d : AD as68q) := slices_Clone_Pay k d.1
def R68q : Nat × Entry := (79, fun k nm args h => entry as68q rs68q (fun d => slices_Clone_Pay k d.1) pk68q nm args h)
theorem nil68q (k : Nat) : evF E68q A68q k 1000 0 Proofs.Tryz.f79 [.c .nsl] (boxHp []) (outM rs68q up68q) = slices_Clone_Pay k [] := by kernel_rfl
theorem ev68q (k : Nat) (xs : List K1q) : evF E68q A68q k 1000 0 Proofs.Tryz.f79 [.c (.nfl false y7q xs)] (boxHp []) (outM rs68q up68q) = slices_Clone_Pay k xs := by kernel_rfl
theorem F68q : FnOK Proofs.Tryz.prog R68q := fn_nil (E := E68q) (A := A68q) (na := 0) (fn := Proofs.Tryz.f79) (t := y7q) (S := slices_Clone_Pay) (unpack := up68q) B68q (by kernel_rfl) (loopsOK_none (by kernel_rfl)) (by kernel_rfl) (by kernel_rfl) (fun _ => rfl) (fun k x hx => (nil68q k).trans hx) (fun k xs x hx => (ev68q k xs).trans hx)

/-! ### slices.Delete[[]giro/api.Pay,giro/api.Pay] -/
noncomputable def E69q : Env := ⟨Proofs.Tryz.prog, fun _ => false, sumsOf []⟩
def A69q : Notes := ⟨[], []⟩
theorem B69q : EnvB E69q := env_n mixed_orders trivial
def as69q : List AX := [.c (.own y7q), .c (.p (.int .i64)), .c (.p (.int .i64))]
def rs69q : RS := .c (.own y7q)
def os69q : List (List RC) := []
def pk69q : List K1q → RL (rs69q.cells ++ os69q.flatten) := fun x => (x, ())
def up69q : RL (rs69q.cells ++ os69q.flatten) → List K1q := fun d => d.1
def s69q (k : Nat) (d : XD as69q) := slices_Delete_Pay k d.1 d.2.1 d.2.2.1
def R69q : Nat × Entry := (78, fun k nm args h => entryX as69q rs69q os69q (s69q k) pk69q nm args h)
theorem ev69q (k : Nat) (d : XD as69q) : evF E69q A69q k 1000 0 Proofs.Tryz.f78 (absArgsX as69q d).1 (absArgsX as69q d).2 (outXM as69q rs69q os69q up69q) = s69q k d := by
  obtain ⟨_, _, _, _⟩ := d
  kernel_rfl
theorem F69q : FnOK Proofs.Tryz.prog R69q := fn_x (E := E69q) (A := A69q) (na := 0) (fn := Proofs.Tryz.f78) (S := s69q) (unpack := up69q) B69q (by kernel_rfl) (loopsOK_none (by kernel_rfl)) (by kernel_rfl) (by kernel_rfl) (fun _ => rfl) (by kernel_rfl) ev69q

/-! ### giro/row.Drop -/
noncomputable def E70q : Env := ⟨Proofs.Tryz.prog, fun _ => false, sumsOf [R67q, R68q, R69q]⟩
def A70q : Notes := ⟨[], []⟩
theorem B70q : EnvB E70q := env_n mixed_orders ⟨F67q, F68q, F69q, trivial⟩
def as70q : List AS := [.c (.dat true y7q), .c (.int .i64)]
def rs70q : RS := .tup [(false, [.fro y7q]), (true, [.int .i64, .int .i64, .int .i64, .int .i64, .int .i64, .int .i64, .int .i64]), (false, [.int .i64])]
def pk70q : (List K1q) × Int × Int × Int × Int × Int × Int × Int × Int → RL rs70q.cells := fun x => (x.1, x.2.1, x.2.2.1, x.2.2.2.1, x.2.2.2.2.1, x.2.2.2.2.2.1, x.2.2.2.2.2.2.1, x.2.2.2.2.2.2.2.1, x.2.2.2.2.2.2.2.2, ())
def up70q : RL rs70q.cells → (List K1q) × Int × Int × Int × Int × Int × Int × Int × Int := fun d => (d.1, d.2.1, d.2.2.1, d.2.2.2.1, d.2.2.2.2.1, d.2.2.2.2.2.1, d.2.2.2.2.2.2.1, d.2.2.2.2.2.2.2.1, d.2.2.2.2.2.2.2.2.1)
def s70q (k : Nat) (d : AD as70q) := row_Drop k d.1 d.2.1
def R70q : Nat × Entry := (44, fun k nm args h => entry as70q rs70q (s70q k) pk70q nm args h)
theorem ev70q (k : Nat) (d : AD as70q) : evF E70q A70q k 1000 0 Proofs.Tryz.f44 (absArgs as70q d).1 (absArgs as70q d).2 (outM rs70q up70q) = s70q k d := by
  obtain ⟨_, _, _⟩ := d
  kernel_rfl
theorem F70q : FnOK Proofs.Tryz.prog R70q := fn_b (E := E70q) (A := A70q) (na := 0) (fn := Proofs.Tryz.f44) (S := s70q) (unpack := up70q) B70q (by kernel_rfl) (loopsOK_none (by kernel_rfl)) (by kernel_rfl) (by kernel_rfl) (fun _ => rfl) ev70q

/-! ### giro/free.Run -/
noncomputable def E71q : Env := ⟨Proofs.Tryz.prog, fun _ => false, sumsOf [R64q, R70q]⟩
def I71_0q : Spec := ⟨[(2, .c (.int .i64)), (6, .c (.lit (.ptr 1001000 0))), (7, .c (.dat true y7q)), (8, .c (.lit (.osl 1001001 none)))], [.box true [.dat true y3q, .dat true (.sl (.int .i64)), .dat true (.int .i64), .dat true (.sl (.int .i64))], .arr true y7q], [(8, none, y7q, false)]⟩
def X0_71_0q : Spec := ⟨[(6, .c (.lit (.ptr 1001000 0))), (7, .c (.dat true y7q)), (8, .c (.lit (.osl 1001001 none)))], [.box true [.dat true y3q, .dat true (.sl (.int .i64)), .dat true (.int .i64), .dat true (.sl (.int .i64))], .arr true y7q], []⟩
def O71_0q : List (Ex × Spec) := [(.ret, X0_71_0q)]
def c71_0q (f : free_Run_L0T) (d : I71_0q.den) : Option free_Run_L0X := f d.1.1.1 d.1.2.2.1.1 d.2.1.1 d.2.1.2.1 d.2.1.2.2.1 d.2.1.2.2.2.1 d.2.2.1
def T71_0q : OutD O71_0q → free_Run_L0X := fun d => (d.1.2.1.1, d.2.1.1, d.2.1.2.1, d.2.1.2.2.1, d.2.1.2.2.2.1, d.2.2.1)
def e71_0q (base : Nat) (x : free_Run_L0X) (R : Type) (K : Ex → St → Option R) : Option R := K .ret (stOf base X0_71_0q (((), (x.1, ()), (), ()), ((x.2.1, x.2.2.1, x.2.2.2.1, x.2.2.2.2.1, ()), x.2.2.2.2.2, ())))
def L71_0q : LoopSum := ⟨I71_0q, O71_0q, free_Run_L0X, fun k d => c71_0q (free_Run_L0 k k) d, e71_0q⟩
def A71q : Notes := ⟨[], [(2, L71_0q)]⟩
theorem B71q : EnvB E71q := env_n mixed_orders ⟨F64q, F70q, trivial⟩
theorem st71_0q (k : Nat) (rec : free_Run_L0T) (d : I71_0q.den) : c71_0q (free_Run_L0b k rec) d = evC E71q A71q k 1000 0 40 (loopAt (bodyOf Proofs.Tryz.f38) 0) (stOf (1000 + loopBase) I71_0q d) (roundK 1000 I71_0q O71_0q T71_0q (c71_0q rec)) := by
  obtain ⟨⟨⟨_, _⟩, _, ⟨_, _⟩, _, _⟩, ⟨⟨_, _, _, _, _⟩, _, _⟩⟩ := d
  kernel_rfl
theorem lk71_0q : LoopOK Proofs.Tryz.prog 1000 0 40 (loopAt (bodyOf Proofs.Tryz.f38) 0) L71_0q :=
  loop_b (A := A71q) (inS := I71_0q) (outs := O71_0q) B71q (loopsOK_none (by kernel_rfl)) T71_0q e71_0q (fun _ _ _ => rfl) (fun k n d => c71_0q (free_Run_L0 k n) d) (fun _ _ => rfl) (fun k n d => st71_0q k (free_Run_L0 k n) d)
def as71q : List AS := [.agg [.dat true y3q, .dat true (.sl (.int .i64)), .dat true (.int .i64), .dat true (.sl (.int .i64))], .c (.dat true y7q), .c (.int .i64)]
def rs71q : RS := .tup [(true, [.fro y3q, .fro (.sl (.int .i64)), .fro (.int .i64), .fro (.sl (.int .i64))]), (false, [.fro y7q]), (false, [.own y7q])]
def pk71q : (List K2q) × (List (List Int)) × (List Int) × (List (List Int)) × (List K1q) × (List K1q) → RL rs71q.cells := fun x => (x.1, x.2.1, x.2.2.1, x.2.2.2.1, x.2.2.2.2.1, x.2.2.2.2.2, ())
def up71q : RL rs71q.cells → (List K2q) × (List (List Int)) × (List Int) × (List (List Int)) × (List K1q) × (List K1q) := fun d => (d.1, d.2.1, d.2.2.1, d.2.2.2.1, d.2.2.2.2.1, d.2.2.2.2.2.1)
def s71q (k : Nat) (d : AD as71q) := free_Run k d.1 d.2.1 d.2.2.1 d.2.2.2.1 d.2.2.2.2.1 d.2.2.2.2.2.1
def R71q : Nat × Entry := (38, fun k nm args h => entry as71q rs71q (s71q k) pk71q nm args h)
theorem ev71q (k : Nat) (d : AD as71q) : evF E71q A71q k 1000 0 Proofs.Tryz.f38 (absArgs as71q d).1 (absArgs as71q d).2 (outM rs71q up71q) = s71q k d := by
  obtain ⟨_, _, _, _, _, _, _⟩ := d
  kernel_rfl
theorem F71q : FnOK Proofs.Tryz.prog R71q := fn_b (E := E71q) (A := A71q) (na := 0) (fn := Proofs.Tryz.f38) (S := s71q) (unpack := up71q) B71q (by kernel_rfl) (loopsOK_of (n := 1) (by kernel_rfl) fun i hi => match i, hi with | 0, _ => ⟨L71_0q, by kernel_rfl, lk71_0q⟩ | i + 1, hi => absurd hi (by omega)) (by kernel_rfl) (by kernel_rfl) (fun _ => rfl) ev71q

/-! ### giro/pair.next -/
noncomputable def E72q : Env := ⟨Proofs.Tryz.prog, fun _ => false, sumsOf [R16q, R36q, R63q]⟩
def I72_0q : Spec := ⟨[(3, .c (.lit (.ptr 1001000 0))), (6, .c (.lit (.ptr 1001001 0))), (8, .c (.lit (.osl 1001002 none))), (10, .c (.lit (.ptr 1001003 0))), (18, .c (.lit (.osl 1001002 none))), (19, .c (.int .i64)), (20, .c (.int .i64)), (24, .c (.lit (.osl 1001002 none))), (25, .c (.int .i64)), (26, .c (.int .i64))], [.box true [.dat true y3q, .dat true (.sl (.int .i64)), .dat true (.int .i64), .dat true (.sl (.int .i64))], .box true [.int .i64, .int .i64, .int .i64, .int .i64, .int .i64, .int .i64, .int .i64, .int .i64, .int .i64, .int .i64, .int .i64, .int .i64, .int .i64, .int .i64, .lit .nsl, .lit .nsl, .lit .nsl, .lit .nsl], .arr true y7q, .box true [.int .i64, .int .i64, .int .i64, .int .i64, .int .i64, .int .i64, .int .i64]], []⟩
def X0_72_0q : Spec := ⟨[(3, .c (.lit (.ptr 1001000 0))), (6, .c (.lit (.ptr 1001001 0))), (8, .c (.lit (.osl 1001002 none))), (18, .c (.lit (.osl 1001002 none))), (19, .c (.int .i64)), (20, .c (.int .i64))], [.box true [.dat true y3q, .dat true (.sl (.int .i64)), .dat true (.int .i64), .dat true (.sl (.int .i64))], .box true [.int .i64, .int .i64, .int .i64, .int .i64, .int .i64, .int .i64, .int .i64, .int .i64, .int .i64, .int .i64, .int .i64, .int .i64, .int .i64, .int .i64, .lit .nsl, .lit .nsl, .lit .nsl, .lit .nsl], .arr true y7q], []⟩
def X1_72_0q : Spec := ⟨[(6, .c (.lit (.ptr 1001000 0))), (7, .c (.bool))], [.box true [.int .i64, .int .i64, .int .i64, .int .i64, .int .i64, .int .i64, .int .i64, .int .i64, .int .i64, .int .i64, .int .i64, .int .i64, .int .i64, .int .i64, .dat true y3q, .dat true (.sl (.int .i64)), .dat true (.int .i64), .dat true (.sl (.int .i64))]], []⟩
def O72_0q : List (Ex × Spec) := [(.exit 2, X0_72_0q), (.ret, X1_72_0q)]
def c72_0q (f : pair_next_L1T) (d : I72_0q.den) : Option pair_next_L1X := f d.1.2.2.2.2.2.1.1 d.1.2.2.2.2.2.2.1.1 d.1.2.2.2.2.2.2.2.2.1.1 d.1.2.2.2.2.2.2.2.2.2.1.1 d.2.1.1 d.2.1.2.1 d.2.1.2.2.1 d.2.1.2.2.2.1 d.2.2.1.1 d.2.2.1.2.1 d.2.2.1.2.2.1 d.2.2.1.2.2.2.1 d.2.2.1.2.2.2.2.1 d.2.2.1.2.2.2.2.2.1 d.2.2.1.2.2.2.2.2.2.1 d.2.2.1.2.2.2.2.2.2.2.1 d.2.2.1.2.2.2.2.2.2.2.2.1 d.2.2.1.2.2.2.2.2.2.2.2.2.1 d.2.2.1.2.2.2.2.2.2.2.2.2.2.1 d.2.2.1.2.2.2.2.2.2.2.2.2.2.2.1 d.2.2.1.2.2.2.2.2.2.2.2.2.2.2.2.1 d.2.2.1.2.2.2.2.2.2.2.2.2.2.2.2.2.1 d.2.2.2.1 d.2.2.2.2.1.1 d.2.2.2.2.1.2.1 d.2.2.2.2.1.2.2.1 d.2.2.2.2.1.2.2.2.1 d.2.2.2.2.1.2.2.2.2.1 d.2.2.2.2.1.2.2.2.2.2.1 d.2.2.2.2.1.2.2.2.2.2.2.1
def T72_0q : OutD O72_0q → pair_next_L1X
 | .inl d => .inl (d.1.2.2.2.2.1.1, d.1.2.2.2.2.2.1.1, d.2.1.1, d.2.1.2.1, d.2.1.2.2.1, d.2.1.2.2.2.1, d.2.2.1.1, d.2.2.1.2.1, d.2.2.1.2.2.1, d.2.2.1.2.2.2.1, d.2.2.1.2.2.2.2.1, d.2.2.1.2.2.2.2.2.1, d.2.2.1.2.2.2.2.2.2.1, d.2.2.1.2.2.2.2.2.2.2.1, d.2.2.1.2.2.2.2.2.2.2.2.1, d.2.2.1.2.2.2.2.2.2.2.2.2.1, d.2.2.1.2.2.2.2.2.2.2.2.2.2.1, d.2.2.1.2.2.2.2.2.2.2.2.2.2.2.1, d.2.2.1.2.2.2.2.2.2.2.2.2.2.2.2.1, d.2.2.1.2.2.2.2.2.2.2.2.2.2.2.2.2.1, d.2.2.2.1)
 | .inr d => .inr (d.1.2.1.1, d.2.1.1, d.2.1.2.1, d.2.1.2.2.1, d.2.1.2.2.2.1, d.2.1.2.2.2.2.1, d.2.1.2.2.2.2.2.1, d.2.1.2.2.2.2.2.2.1, d.2.1.2.2.2.2.2.2.2.1, d.2.1.2.2.2.2.2.2.2.2.1, d.2.1.2.2.2.2.2.2.2.2.2.1, d.2.1.2.2.2.2.2.2.2.2.2.2.1, d.2.1.2.2.2.2.2.2.2.2.2.2.2.1, d.2.1.2.2.2.2.2.2.2.2.2.2.2.2.1, d.2.1.2.2.2.2.2.2.2.2.2.2.2.2.2.1, d.2.1.2.2.2.2.2.2.2.2.2.2.2.2.2.2.1, d.2.1.2.2.2.2.2.2.2.2.2.2.2.2.2.2.2.1, d.2.1.2.2.2.2.2.2.2.2.2.2.2.2.2.2.2.2.1, d.2.1.2.2.2.2.2.2.2.2.2.2.2.2.2.2.2.2.2.1)
def e72_0q (base : Nat) (x : pair_next_L1X) (R : Type) (K : Ex → St → Option R) : Option R := match x with
 | .inl x => K (.exit 2) (stOf base X0_72_0q (((), (), (), (), (x.1, ()), (x.2.1, ()), ()), ((x.2.2.1, x.2.2.2.1, x.2.2.2.2.1, x.2.2.2.2.2.1, ()), (x.2.2.2.2.2.2.1, x.2.2.2.2.2.2.2.1, x.2.2.2.2.2.2.2.2.1, x.2.2.2.2.2.2.2.2.2.1, x.2.2.2.2.2.2.2.2.2.2.1, x.2.2.2.2.2.2.2.2.2.2.2.1, x.2.2.2.2.2.2.2.2.2.2.2.2.1, x.2.2.2.2.2.2.2.2.2.2.2.2.2.1, x.2.2.2.2.2.2.2.2.2.2.2.2.2.2.1, x.2.2.2.2.2.2.2.2.2.2.2.2.2.2.2.1, x.2.2.2.2.2.2.2.2.2.2.2.2.2.2.2.2.1, x.2.2.2.2.2.2.2.2.2.2.2.2.2.2.2.2.2.1, x.2.2.2.2.2.2.2.2.2.2.2.2.2.2.2.2.2.2.1, x.2.2.2.2.2.2.2.2.2.2.2.2.2.2.2.2.2.2.2.1, ()), x.2.2.2.2.2.2.2.2.2.2.2.2.2.2.2.2.2.2.2.2, ())))
 | .inr x => K .ret (stOf base X1_72_0q (((), (x.1, ()), ()), ((x.2.1, x.2.2.1, x.2.2.2.1, x.2.2.2.2.1, x.2.2.2.2.2.1, x.2.2.2.2.2.2.1, x.2.2.2.2.2.2.2.1, x.2.2.2.2.2.2.2.2.1, x.2.2.2.2.2.2.2.2.2.1, x.2.2.2.2.2.2.2.2.2.2.1, x.2.2.2.2.2.2.2.2.2.2.2.1, x.2.2.2.2.2.2.2.2.2.2.2.2.1, x.2.2.2.2.2.2.2.2.2.2.2.2.2.1, x.2.2.2.2.2.2.2.2.2.2.2.2.2.2.1, x.2.2.2.2.2.2.2.2.2.2.2.2.2.2.2.1, x.2.2.2.2.2.2.2.2.2.2.2.2.2.2.2.2.1, x.2.2.2.2.2.2.2.2.2.2.2.2.2.2.2.2.2.1, x.2.2.2.2.2.2.2.2.2.2.2.2.2.2.2.2.2.2, ()), ())))
def L72_0q : LoopSum := ⟨I72_0q, O72_0q, pair_next_L1X, fun k d => c72_0q (pair_next_L1 k k) d, e72_0q⟩
def I72_1q : Spec := ⟨[(3, .c (.lit (.ptr 1001000 0))), (6, .c (.lit (.ptr 1001001 0))), (8, .c (.lit (.osl 1001002 none))), (18, .c (.lit (.osl 1001002 none))), (19, .c (.int .i64)), (20, .c (.int .i64))], [.box true [.dat true y3q, .dat true (.sl (.int .i64)), .dat true (.int .i64), .dat true (.sl (.int .i64))], .box true [.int .i64, .int .i64, .int .i64, .int .i64, .int .i64, .int .i64, .int .i64, .int .i64, .int .i64, .int .i64, .int .i64, .int .i64, .int .i64, .int .i64, .lit .nsl, .lit .nsl, .lit .nsl, .lit .nsl], .arr true y7q], []⟩
def X0_72_1q : Spec := ⟨[(6, .c (.lit (.ptr 1001000 0)))], [.box true [.int .i64, .int .i64, .int .i64, .int .i64, .int .i64, .int .i64, .int .i64, .int .i64, .int .i64, .int .i64, .int .i64, .int .i64, .int .i64, .int .i64, .lit .nsl, .lit .nsl, .lit .nsl, .lit .nsl]], []⟩
def X1_72_1q : Spec := ⟨[(6, .c (.lit (.ptr 1001000 0))), (7, .c (.bool))], [.box true [.int .i64, .int .i64, .int .i64, .int .i64, .int .i64, .int .i64, .int .i64, .int .i64, .int .i64, .int .i64, .int .i64, .int .i64, .int .i64, .int .i64, .dat true y3q, .dat true (.sl (.int .i64)), .dat true (.int .i64), .dat true (.sl (.int .i64))]], []⟩
def O72_1q : List (Ex × Spec) := [(.exit 0, X0_72_1q), (.ret, X1_72_1q)]
def c72_1q (f : pair_next_L0T) (d : I72_1q.den) : Option pair_next_L0X := f d.1.2.2.2.2.1.1 d.1.2.2.2.2.2.1.1 d.2.1.1 d.2.1.2.1 d.2.1.2.2.1 d.2.1.2.2.2.1 d.2.2.1.1 d.2.2.1.2.1 d.2.2.1.2.2.1 d.2.2.1.2.2.2.1 d.2.2.1.2.2.2.2.1 d.2.2.1.2.2.2.2.2.1 d.2.2.1.2.2.2.2.2.2.1 d.2.2.1.2.2.2.2.2.2.2.1 d.2.2.1.2.2.2.2.2.2.2.2.1 d.2.2.1.2.2.2.2.2.2.2.2.2.1 d.2.2.1.2.2.2.2.2.2.2.2.2.2.1 d.2.2.1.2.2.2.2.2.2.2.2.2.2.2.1 d.2.2.1.2.2.2.2.2.2.2.2.2.2.2.2.1 d.2.2.1.2.2.2.2.2.2.2.2.2.2.2.2.2.1 d.2.2.2.1
def T72_1q : OutD O72_1q → pair_next_L0X
 | .inl d => .inl (d.2.1.1, d.2.1.2.1, d.2.1.2.2.1, d.2.1.2.2.2.1, d.2.1.2.2.2.2.1, d.2.1.2.2.2.2.2.1, d.2.1.2.2.2.2.2.2.1, d.2.1.2.2.2.2.2.2.2.1, d.2.1.2.2.2.2.2.2.2.2.1, d.2.1.2.2.2.2.2.2.2.2.2.1, d.2.1.2.2.2.2.2.2.2.2.2.2.1, d.2.1.2.2.2.2.2.2.2.2.2.2.2.1, d.2.1.2.2.2.2.2.2.2.2.2.2.2.2.1, d.2.1.2.2.2.2.2.2.2.2.2.2.2.2.2.1)
 | .inr d => .inr (d.1.2.1.1, d.2.1.1, d.2.1.2.1, d.2.1.2.2.1, d.2.1.2.2.2.1, d.2.1.2.2.2.2.1, d.2.1.2.2.2.2.2.1, d.2.1.2.2.2.2.2.2.1, d.2.1.2.2.2.2.2.2.2.1, d.2.1.2.2.2.2.2.2.2.2.1, d.2.1.2.2.2.2.2.2.2.2.2.1, d.2.1.2.2.2.2.2.2.2.2.2.2.1, d.2.1.2.2.2.2.2.2.2.2.2.2.2.1, d.2.1.2.2.2.2.2.2.2.2.2.2.2.2.1, d.2.1.2.2.2.2.2.2.2.2.2.2.2.2.2.1, d.2.1.2.2.2.2.2.2.2.2.2.2.2.2.2.2.1, d.2.1.2.2.2.2.2.2.2.2.2.2.2.2.2.2.2.1, d.2.1.2.2.2.2.2.2.2.2.2.2.2.2.2.2.2.2.1, d.2.1.2.2.2.2.2.2.2.2.2.2.2.2.2.2.2.2.2.1)
def e72_1q (base : Nat) (x : pair_next_L0X) (R : Type) (K : Ex → St → Option R) : Option R := match x with
 | .inl x => K (.exit 0) (stOf base X0_72_1q (((), ()), ((x.1, x.2.1, x.2.2.1, x.2.2.2.1, x.2.2.2.2.1, x.2.2.2.2.2.1, x.2.2.2.2.2.2.1, x.2.2.2.2.2.2.2.1, x.2.2.2.2.2.2.2.2.1, x.2.2.2.2.2.2.2.2.2.1, x.2.2.2.2.2.2.2.2.2.2.1, x.2.2.2.2.2.2.2.2.2.2.2.1, x.2.2.2.2.2.2.2.2.2.2.2.2.1, x.2.2.2.2.2.2.2.2.2.2.2.2.2, ()), ())))
 | .inr x => K .ret (stOf base X1_72_1q (((), (x.1, ()), ()), ((x.2.1, x.2.2.1, x.2.2.2.1, x.2.2.2.2.1, x.2.2.2.2.2.1, x.2.2.2.2.2.2.1, x.2.2.2.2.2.2.2.1, x.2.2.2.2.2.2.2.2.1, x.2.2.2.2.2.2.2.2.2.1, x.2.2.2.2.2.2.2.2.2.2.1, x.2.2.2.2.2.2.2.2.2.2.2.1, x.2.2.2.2.2.2.2.2.2.2.2.2.1, x.2.2.2.2.2.2.2.2.2.2.2.2.2.1, x.2.2.2.2.2.2.2.2.2.2.2.2.2.2.1, x.2.2.2.2.2.2.2.2.2.2.2.2.2.2.2.1, x.2.2.2.2.2.2.2.2.2.2.2.2.2.2.2.2.1, x.2.2.2.2.2.2.2.2.2.2.2.2.2.2.2.2.2.1, x.2.2.2.2.2.2.2.2.2.2.2.2.2.2.2.2.2.2, ()), ())))
def L72_1q : LoopSum := ⟨I72_1q, O72_1q, pair_next_L0X, fun k d => c72_1q (pair_next_L0 k k) d, e72_1q⟩
def A72q : Notes := ⟨[], [(6, L72_0q), (3, L72_1q)]⟩
theorem B72q : EnvB E72q := env_n mixed_orders ⟨F16q, F36q, F63q, trivial⟩
theorem st72_0q (k : Nat) (rec : pair_next_L1T) (d : I72_0q.den) : c72_0q (pair_next_L1b k rec) d = evC E72q A72q k 1000 0 74 (loopAt (loopAt (bodyOf Proofs.Tryz.f63) 0) 0) (stOf (1000 + loopBase) I72_0q d) (roundK 1000 I72_0q O72_0q T72_0q (c72_0q rec)) := by
  obtain ⟨⟨_, _, _, _, _, ⟨_, _⟩, ⟨_, _⟩, _, ⟨_, _⟩, ⟨_, _⟩, _⟩, ⟨⟨_, _, _, _, _⟩, ⟨_, _, _, _, _, _, _, _, _, _, _, _, _, _, _⟩, _, ⟨_, _, _, _, _, _, _, _⟩, _⟩⟩ := d
  kernel_rfl
theorem lk72_0q : LoopOK Proofs.Tryz.prog 1000 0 74 (loopAt (loopAt (bodyOf Proofs.Tryz.f63) 0) 0) L72_0q :=
  loop_b (A := A72q) (inS := I72_0q) (outs := O72_0q) B72q (loopsOK_none (by kernel_rfl)) T72_0q e72_0q (by intro o R K; rcases o with o | o <;> rfl) (fun k n d => c72_0q (pair_next_L1 k n) d) (fun _ _ => rfl) (fun k n d => st72_0q k (pair_next_L1 k n) d)
theorem st72_1q (k : Nat) (rec : pair_next_L0T) (d : I72_1q.den) : c72_1q (pair_next_L0b k rec) d = evC E72q A72q k 1000 0 74 (loopAt (bodyOf Proofs.Tryz.f63) 0) (stOf (1000 + loopBase) I72_1q d) (roundK 1000 I72_1q O72_1q T72_1q (c72_1q rec)) := by
  obtain ⟨⟨_, _, _, _, ⟨_, _⟩, ⟨_, _⟩, _⟩, ⟨⟨_, _, _, _, _⟩, ⟨_, _, _, _, _, _, _, _, _, _, _, _, _, _, _⟩, _, _⟩⟩ := d
  kernel_rfl
theorem lk72_1q : LoopOK Proofs.Tryz.prog 1000 0 74 (loopAt (bodyOf Proofs.Tryz.f63) 0) L72_1q :=
  loop_b (A := A72q) (inS := I72_1q) (outs := O72_1q) B72q (loopsOK_of (n := 1) (by kernel_rfl) fun i hi => match i, hi with | 0, _ => ⟨L72_0q, by kernel_rfl, lk72_0q⟩ | i + 1, hi => absurd hi (by omega)) T72_1q e72_1q (by intro o R K; rcases o with o | o <;> rfl) (fun k n d => c72_1q (pair_next_L0 k n) d) (fun _ _ => rfl) (fun k n d => st72_1q k (pair_next_L0 k n) d)
def as72q : List AS := [.agg [.dat true y3q, .dat true (.sl (.int .i64)), .dat true (.int .i64), .dat true (.sl (.int .i64))], .c (.dat true y7q), .c (.int .i64)]
def rs72q : RS := .tup [(true, [.int .i64, .int .i64, .int .i64, .int .i64, .int .i64, .int .i64, .int .i64, .int .i64, .int .i64, .int .i64, .int .i64, .int .i64, .int .i64, .int .i64, .fro y3q, .fro (.sl (.int .i64)), .fro (.int .i64), .fro (.sl (.int .i64))]), (false, [.bool])]
def pk72q : Int × Int × Int × Int × Int × Int × Int × Int × Int × Int × Int × Int × Int × Int × (List K2q) × (List (List Int)) × (List Int) × (List (List Int)) × Bool → RL rs72q.cells := fun x => (x.1, x.2.1, x.2.2.1, x.2.2.2.1, x.2.2.2.2.1, x.2.2.2.2.2.1, x.2.2.2.2.2.2.1, x.2.2.2.2.2.2.2.1, x.2.2.2.2.2.2.2.2.1, x.2.2.2.2.2.2.2.2.2.1, x.2.2.2.2.2.2.2.2.2.2.1, x.2.2.2.2.2.2.2.2.2.2.2.1, x.2.2.2.2.2.2.2.2.2.2.2.2.1, x.2.2.2.2.2.2.2.2.2.2.2.2.2.1, x.2.2.2.2.2.2.2.2.2.2.2.2.2.2.1, x.2.2.2.2.2.2.2.2.2.2.2.2.2.2.2.1, x.2.2.2.2.2.2.2.2.2.2.2.2.2.2.2.2.1, x.2.2.2.2.2.2.2.2.2.2.2.2.2.2.2.2.2.1, x.2.2.2.2.2.2.2.2.2.2.2.2.2.2.2.2.2.2, ())
def up72q : RL rs72q.cells → Int × Int × Int × Int × Int × Int × Int × Int × Int × Int × Int × Int × Int × Int × (List K2q) × (List (List Int)) × (List Int) × (List (List Int)) × Bool := fun d => (d.1, d.2.1, d.2.2.1, d.2.2.2.1, d.2.2.2.2.1, d.2.2.2.2.2.1, d.2.2.2.2.2.2.1, d.2.2.2.2.2.2.2.1, d.2.2.2.2.2.2.2.2.1, d.2.2.2.2.2.2.2.2.2.1, d.2.2.2.2.2.2.2.2.2.2.1, d.2.2.2.2.2.2.2.2.2.2.2.1, d.2.2.2.2.2.2.2.2.2.2.2.2.1, d.2.2.2.2.2.2.2.2.2.2.2.2.2.1, d.2.2.2.2.2.2.2.2.2.2.2.2.2.2.1, d.2.2.2.2.2.2.2.2.2.2.2.2.2.2.2.1, d.2.2.2.2.2.2.2.2.2.2.2.2.2.2.2.2.1, d.2.2.2.2.2.2.2.2.2.2.2.2.2.2.2.2.2.1, d.2.2.2.2.2.2.2.2.2.2.2.2.2.2.2.2.2.2.1)
def s72q (k : Nat) (d : AD as72q) := pair_next k d.1 d.2.1 d.2.2.1 d.2.2.2.1 d.2.2.2.2.1 d.2.2.2.2.2.1
def R72q : Nat × Entry := (63, fun k nm args h => entry as72q rs72q (s72q k) pk72q nm args h)
theorem ev72q (k : Nat) (d : AD as72q) : evF E72q A72q k 1000 0 Proofs.Tryz.f63 (absArgs as72q d).1 (absArgs as72q d).2 (outM rs72q up72q) = s72q k d := by
  obtain ⟨_, _, _, _, _, _, _⟩ := d
  kernel_rfl
theorem F72q : FnOK Proofs.Tryz.prog R72q := fn_b (E := E72q) (A := A72q) (na := 0) (fn := Proofs.Tryz.f63) (S := s72q) (unpack := up72q) B72q (by kernel_rfl) (loopsOK_of (n := 1) (by kernel_rfl) fun i hi => match i, hi with | 0, _ => ⟨L72_1q, by kernel_rfl, lk72_1q⟩ | i + 1, hi => absurd hi (by omega)) (by kernel_rfl) (by kernel_rfl) (fun _ => rfl) ev72q

/-! ### giro/pair.Run -/
noncomputable def E73q : Env := ⟨Proofs.Tryz.prog, fun _ => false, sumsOf [R72q, R70q]⟩
def I73_0q : Spec := ⟨[(2, .c (.int .i64)), (6, .c (.lit (.ptr 1001000 0))), (7, .c (.dat true y7q)), (8, .c (.lit (.osl 1001001 none))), (33, .c (.lit (.osl 1001002 none))), (34, .c (.int .i64)), (35, .c (.int .i64))], [.box true [.dat true y3q, .dat true (.sl (.int .i64)), .dat true (.int .i64), .dat true (.sl (.int .i64))], .arr true y7q, .arr true y7q], [(8, none, y7q, false)]⟩
def X0_73_0q : Spec := ⟨[(2, .c (.int .i64)), (6, .c (.lit (.ptr 1001000 0))), (7, .c (.dat true y7q)), (8, .c (.lit (.osl 1001001 none)))], [.box true [.dat true y3q, .dat true (.sl (.int .i64)), .dat true (.int .i64), .dat true (.sl (.int .i64))], .arr true y7q], []⟩
def O73_0q : List (Ex × Spec) := [(.exit 2, X0_73_0q)]
def c73_0q (f : pair_Run_L1T) (d : I73_0q.den) : Option pair_Run_L1X := f d.1.1.1 d.1.2.2.1.1 d.1.2.2.2.2.2.1.1 d.1.2.2.2.2.2.2.1.1 d.2.1.1 d.2.1.2.1 d.2.1.2.2.1 d.2.1.2.2.2.1 d.2.2.1 d.2.2.2.1
def T73_0q : OutD O73_0q → pair_Run_L1X := fun d => (d.1.1.1, d.1.2.2.1.1, d.2.1.1, d.2.1.2.1, d.2.1.2.2.1, d.2.1.2.2.2.1, d.2.2.1)
def e73_0q (base : Nat) (x : pair_Run_L1X) (R : Type) (K : Ex → St → Option R) : Option R := K (.exit 2) (stOf base X0_73_0q (((x.1, ()), (), (x.2.1, ()), (), ()), ((x.2.2.1, x.2.2.2.1, x.2.2.2.2.1, x.2.2.2.2.2.1, ()), x.2.2.2.2.2.2, ())))
def L73_0q : LoopSum := ⟨I73_0q, O73_0q, pair_Run_L1X, fun k d => c73_0q (pair_Run_L1 k k) d, e73_0q⟩
def I73_1q : Spec := ⟨[(2, .c (.int .i64)), (6, .c (.lit (.ptr 1001000 0))), (7, .c (.dat true y7q)), (8, .c (.lit (.osl 1001001 none)))], [.box true [.dat true y3q, .dat true (.sl (.int .i64)), .dat true (.int .i64), .dat true (.sl (.int .i64))], .arr true y7q], [(8, none, y7q, false)]⟩
def X0_73_1q : Spec := ⟨[(6, .c (.lit (.ptr 1001000 0))), (7, .c (.dat true y7q)), (8, .c (.lit (.osl 1001001 none)))], [.box true [.dat true y3q, .dat true (.sl (.int .i64)), .dat true (.int .i64), .dat true (.sl (.int .i64))], .arr true y7q], []⟩
def O73_1q : List (Ex × Spec) := [(.ret, X0_73_1q)]
def c73_1q (f : pair_Run_L0T) (d : I73_1q.den) : Option pair_Run_L0X := f d.1.1.1 d.1.2.2.1.1 d.2.1.1 d.2.1.2.1 d.2.1.2.2.1 d.2.1.2.2.2.1 d.2.2.1
def T73_1q : OutD O73_1q → pair_Run_L0X := fun d => (d.1.2.1.1, d.2.1.1, d.2.1.2.1, d.2.1.2.2.1, d.2.1.2.2.2.1, d.2.2.1)
def e73_1q (base : Nat) (x : pair_Run_L0X) (R : Type) (K : Ex → St → Option R) : Option R := K .ret (stOf base X0_73_1q (((), (x.1, ()), (), ()), ((x.2.1, x.2.2.1, x.2.2.2.1, x.2.2.2.2.1, ()), x.2.2.2.2.2, ())))
def L73_1q : LoopSum := ⟨I73_1q, O73_1q, pair_Run_L0X, fun k d => c73_1q (pair_Run_L0 k k) d, e73_1q⟩
def A73q : Notes := ⟨[], [(7, L73_0q), (2, L73_1q)]⟩
theorem B73q : EnvB E73q := env_n mixed_orders ⟨F72q, F70q, trivial⟩
theorem st73_0q (k : Nat) (rec : pair_Run_L1T) (d : I73_0q.den) : c73_0q (pair_Run_L1b k rec) d = evC E73q A73q k 1000 0 52 (loopAt (loopAt (bodyOf Proofs.Tryz.f39) 0) 0) (stOf (1000 + loopBase) I73_0q d) (roundK 1000 I73_0q O73_0q T73_0q (c73_0q rec)) := by
  obtain ⟨⟨⟨_, _⟩, _, ⟨_, _⟩, _, _, ⟨_, _⟩, ⟨_, _⟩, _⟩, ⟨⟨_, _, _, _, _⟩, _, _, _⟩⟩ := d
  kernel_rfl
theorem lk73_0q : LoopOK Proofs.Tryz.prog 1000 0 52 (loopAt (loopAt (bodyOf Proofs.Tryz.f39) 0) 0) L73_0q :=
  loop_b (A := A73q) (inS := I73_0q) (outs := O73_0q) B73q (loopsOK_none (by kernel_rfl)) T73_0q e73_0q (fun _ _ _ => rfl) (fun k n d => c73_0q (pair_Run_L1 k n) d) (fun _ _ => rfl) (fun k n d => st73_0q k (pair_Run_L1 k n) d)
theorem st73_1q (k : Nat) (rec : pair_Run_L0T) (d : I73_1q.den) : c73_1q (pair_Run_L0b k rec) d = evC E73q A73q k 1000 0 52 (loopAt (bodyOf Proofs.Tryz.f39) 0) (stOf (1000 + loopBase) I73_1q d) (roundK 1000 I73_1q O73_1q T73_1q (c73_1q rec)) := by
  obtain ⟨⟨⟨_, _⟩, _, ⟨_, _⟩, _, _⟩, ⟨⟨_, _, _, _, _⟩, _, _⟩⟩ := d
  kernel_rfl
theorem lk73_1q : LoopOK Proofs.Tryz.prog 1000 0 52 (loopAt (bodyOf Proofs.Tryz.f39) 0) L73_1q :=
  loop_b (A := A73q) (inS := I73_1q) (outs := O73_1q) B73q (loopsOK_of (n := 1) (by kernel_rfl) fun i hi => match i, hi with | 0, _ => ⟨L73_0q, by kernel_rfl, lk73_0q⟩ | i + 1, hi => absurd hi (by omega)) T73_1q e73_1q (fun _ _ _ => rfl) (fun k n d => c73_1q (pair_Run_L0 k n) d) (fun _ _ => rfl) (fun k n d => st73_1q k (pair_Run_L0 k n) d)
def as73q : List AS := [.agg [.dat true y3q, .dat true (.sl (.int .i64)), .dat true (.int .i64), .dat true (.sl (.int .i64))], .c (.dat true y7q), .c (.int .i64)]
def rs73q : RS := .tup [(true, [.fro y3q, .fro (.sl (.int .i64)), .fro (.int .i64), .fro (.sl (.int .i64))]), (false, [.fro y7q]), (false, [.own y7q])]
def pk73q : (List K2q) × (List (List Int)) × (List Int) × (List (List Int)) × (List K1q) × (List K1q) → RL rs73q.cells := fun x => (x.1, x.2.1, x.2.2.1, x.2.2.2.1, x.2.2.2.2.1, x.2.2.2.2.2, ())
def up73q : RL rs73q.cells → (List K2q) × (List (List Int)) × (List Int) × (List (List Int)) × (List K1q) × (List K1q) := fun d => (d.1, d.2.1, d.2.2.1, d.2.2.2.1, d.2.2.2.2.1, d.2.2.2.2.2.1)
def s73q (k : Nat) (d : AD as73q) := pair_Run k d.1 d.2.1 d.2.2.1 d.2.2.2.1 d.2.2.2.2.1 d.2.2.2.2.2.1
def R73q : Nat × Entry := (39, fun k nm args h => entry as73q rs73q (s73q k) pk73q nm args h)
theorem ev73q (k : Nat) (d : AD as73q) : evF E73q A73q k 1000 0 Proofs.Tryz.f39 (absArgs as73q d).1 (absArgs as73q d).2 (outM rs73q up73q) = s73q k d := by
  obtain ⟨_, _, _, _, _, _, _⟩ := d
  kernel_rfl
theorem F73q : FnOK Proofs.Tryz.prog R73q := fn_b (E := E73q) (A := A73q) (na := 0) (fn := Proofs.Tryz.f39) (S := s73q) (unpack := up73q) B73q (by kernel_rfl) (loopsOK_of (n := 1) (by kernel_rfl) fun i hi => match i, hi with | 0, _ => ⟨L73_1q, by kernel_rfl, lk73_1q⟩ | i + 1, hi => absurd hi (by omega)) (by kernel_rfl) (by kernel_rfl) (fun _ => rfl) ev73q

/-! ### giro/settle.some -/
noncomputable def E74q : Env := ⟨Proofs.Tryz.prog, fun _ => false, sumsOf [R71q, R73q]⟩
def I74_0q : Spec := ⟨[(2, .c (.int .i64)), (6, .c (.lit (.ptr 1001000 0))), (7, .c (.dat true y7q)), (8, .c (.lit (.osl 1001001 none)))], [.box true [.dat true y3q, .dat true (.sl (.int .i64)), .dat true (.int .i64), .dat true (.sl (.int .i64))], .arr true y7q], [(8, none, y7q, false)]⟩
def X0_74_0q : Spec := ⟨[(6, .c (.lit (.ptr 1001000 0))), (7, .c (.dat true y7q)), (8, .c (.lit (.osl 1001001 none)))], [.box true [.dat true y3q, .dat true (.sl (.int .i64)), .dat true (.int .i64), .dat true (.sl (.int .i64))], .arr true y7q], []⟩
def O74_0q : List (Ex × Spec) := [(.ret, X0_74_0q)]
def c74_0q (f : settle_some_L0T) (d : I74_0q.den) : Option settle_some_L0X := f d.1.1.1 d.1.2.2.1.1 d.2.1.1 d.2.1.2.1 d.2.1.2.2.1 d.2.1.2.2.2.1 d.2.2.1
def T74_0q : OutD O74_0q → settle_some_L0X := fun d => (d.1.2.1.1, d.2.1.1, d.2.1.2.1, d.2.1.2.2.1, d.2.1.2.2.2.1, d.2.2.1)
def e74_0q (base : Nat) (x : settle_some_L0X) (R : Type) (K : Ex → St → Option R) : Option R := K .ret (stOf base X0_74_0q (((), (x.1, ()), (), ()), ((x.2.1, x.2.2.1, x.2.2.2.1, x.2.2.2.2.1, ()), x.2.2.2.2.2, ())))
def L74_0q : LoopSum := ⟨I74_0q, O74_0q, settle_some_L0X, fun k d => c74_0q (settle_some_L0 k k) d, e74_0q⟩
def A74q : Notes := ⟨[], [(2, L74_0q)]⟩
theorem B74q : EnvB E74q := env_n mixed_orders ⟨F71q, F73q, trivial⟩
theorem st74_0q (k : Nat) (rec : settle_some_L0T) (d : I74_0q.den) : c74_0q (settle_some_L0b k rec) d = evC E74q A74q k 1000 0 40 (loopAt (bodyOf Proofs.Tryz.f18) 0) (stOf (1000 + loopBase) I74_0q d) (roundK 1000 I74_0q O74_0q T74_0q (c74_0q rec)) := by
  obtain ⟨⟨⟨_, _⟩, _, ⟨_, _⟩, _, _⟩, ⟨⟨_, _, _, _, _⟩, _, _⟩⟩ := d
  kernel_rfl
theorem lk74_0q : LoopOK Proofs.Tryz.prog 1000 0 40 (loopAt (bodyOf Proofs.Tryz.f18) 0) L74_0q :=
  loop_b (A := A74q) (inS := I74_0q) (outs := O74_0q) B74q (loopsOK_none (by kernel_rfl)) T74_0q e74_0q (fun _ _ _ => rfl) (fun k n d => c74_0q (settle_some_L0 k n) d) (fun _ _ => rfl) (fun k n d => st74_0q k (settle_some_L0 k n) d)
def as74q : List AS := [.agg [.dat true y3q, .dat true (.sl (.int .i64)), .dat true (.int .i64), .dat true (.sl (.int .i64))], .c (.dat true y7q), .c (.int .i64)]
def rs74q : RS := .tup [(true, [.fro y3q, .fro (.sl (.int .i64)), .fro (.int .i64), .fro (.sl (.int .i64))]), (false, [.fro y7q]), (false, [.own y7q])]
def pk74q : (List K2q) × (List (List Int)) × (List Int) × (List (List Int)) × (List K1q) × (List K1q) → RL rs74q.cells := fun x => (x.1, x.2.1, x.2.2.1, x.2.2.2.1, x.2.2.2.2.1, x.2.2.2.2.2, ())
def up74q : RL rs74q.cells → (List K2q) × (List (List Int)) × (List Int) × (List (List Int)) × (List K1q) × (List K1q) := fun d => (d.1, d.2.1, d.2.2.1, d.2.2.2.1, d.2.2.2.2.1, d.2.2.2.2.2.1)
def s74q (k : Nat) (d : AD as74q) := settle_some k d.1 d.2.1 d.2.2.1 d.2.2.2.1 d.2.2.2.2.1 d.2.2.2.2.2.1
def R74q : Nat × Entry := (18, fun k nm args h => entry as74q rs74q (s74q k) pk74q nm args h)
theorem ev74q (k : Nat) (d : AD as74q) : evF E74q A74q k 1000 0 Proofs.Tryz.f18 (absArgs as74q d).1 (absArgs as74q d).2 (outM rs74q up74q) = s74q k d := by
  obtain ⟨_, _, _, _, _, _, _⟩ := d
  kernel_rfl
theorem F74q : FnOK Proofs.Tryz.prog R74q := fn_b (E := E74q) (A := A74q) (na := 0) (fn := Proofs.Tryz.f18) (S := s74q) (unpack := up74q) B74q (by kernel_rfl) (loopsOK_of (n := 1) (by kernel_rfl) fun i hi => match i, hi with | 0, _ => ⟨L74_0q, by kernel_rfl, lk74_0q⟩ | i + 1, hi => absurd hi (by omega)) (by kernel_rfl) (by kernel_rfl) (fun _ => rfl) ev74q

/-! ### giro/view.Of$1 -/
noncomputable def E75q : Env := ⟨Proofs.Tryz.prog, fun _ => false, sumsOf []⟩
def A75q : Notes := ⟨[], []⟩
theorem B75q : EnvB E75q := env_n mixed_orders trivial
def as75q : List AS := [.agg [.int .i64, .int .i64, .int .i64, .int .i64, .int .i64, .int .i64, .int .i64], .ptr [.int .i64]]
def rs75q : RS := .c (.bool)
def pk75q : Bool → RL rs75q.cells := fun x => (x, ())
def up75q : RL rs75q.cells → Bool := fun d => d.1
def s75q (k : Nat) (d : AD as75q) := view_Of_fn1 k d.1 d.2.1 d.2.2.1 d.2.2.2.1 d.2.2.2.2.1 d.2.2.2.2.2.1 d.2.2.2.2.2.2.1 d.2.2.2.2.2.2.2.1
def R75q : Nat × Entry := (91, fun k nm args h => entry as75q rs75q (s75q k) pk75q nm args h)
theorem ev75q (k : Nat) (d : AD as75q) : evF E75q A75q k 1000 0 Proofs.Tryz.f91 (absArgs as75q d).1 (absArgs as75q d).2 (outM rs75q up75q) = s75q k d := by
  obtain ⟨_, _, _, _, _, _, _, _, _⟩ := d
  kernel_rfl
theorem F75q : FnOK Proofs.Tryz.prog R75q := fn_b (E := E75q) (A := A75q) (na := 0) (fn := Proofs.Tryz.f91) (S := s75q) (unpack := up75q) B75q (by kernel_rfl) (loopsOK_none (by kernel_rfl)) (by kernel_rfl) (by kernel_rfl) (fun _ => rfl) ev75q

/-! ### giro/view.all -/
noncomputable def E76q : Env := ⟨Proofs.Tryz.prog, fun _ => false, sumsOf [R75q]⟩
def I76_0q : Spec := ⟨[(1, .c (.lit (.fn 91 [1001000]))), (5, .c (.lit (.osl 1001001 none))), (8, .c (.dat false y7q)), (9, .c (.int .i64)), (10, .c (.int .i64))], [.robox [.int .i64], .arr true y7q], [(5, none, y7q, false)]⟩
def X0_76_0q : Spec := ⟨[(5, .c (.lit (.osl 1001000 none)))], [.arr true y7q], []⟩
def O76_0q : List (Ex × Spec) := [(.exit 0, X0_76_0q)]
def c76_0q (f : view_all__view_Of_fn1_L0T) (d : I76_0q.den) : Option view_all__view_Of_fn1_L0X := f d.1.2.2.1.1 d.1.2.2.2.1.1 d.1.2.2.2.2.1.1 d.2.1.1 d.2.2.1
def T76_0q : OutD O76_0q → view_all__view_Of_fn1_L0X := fun d => d.2.1
def e76_0q (base : Nat) (x : view_all__view_Of_fn1_L0X) (R : Type) (K : Ex → St → Option R) : Option R := K (.exit 0) (stOf base X0_76_0q (((), ()), (x, ())))
def L76_0q : LoopSum := ⟨I76_0q, O76_0q, view_all__view_Of_fn1_L0X, fun k d => c76_0q (view_all__view_Of_fn1_L0 k k) d, e76_0q⟩
def A76q : Notes := ⟨[], [(3, L76_0q)]⟩
theorem B76q : EnvB E76q := env_n mixed_orders ⟨F75q, trivial⟩
theorem st76_0q (k : Nat) (rec : view_all__view_Of_fn1_L0T) (d : I76_0q.den) : c76_0q (view_all__view_Of_fn1_L0b k rec) d = evC E76q A76q k 1000 0 23 (loopAt (bodyOf Proofs.Tryz.f67) 0) (stOf (1000 + loopBase) I76_0q d) (roundK 1000 I76_0q O76_0q T76_0q (c76_0q rec)) := by
  obtain ⟨⟨_, _, ⟨_, _⟩, ⟨_, _⟩, ⟨_, _⟩, _⟩, ⟨⟨_, _⟩, _, _⟩⟩ := d
  kernel_rfl
theorem lk76_0q : LoopOK Proofs.Tryz.prog 1000 0 23 (loopAt (bodyOf Proofs.Tryz.f67) 0) L76_0q :=
  loop_b (A := A76q) (inS := I76_0q) (outs := O76_0q) B76q (loopsOK_none (by kernel_rfl)) T76_0q e76_0q (fun _ _ _ => rfl) (fun k n d => c76_0q (view_all__view_Of_fn1_L0 k n) d) (fun _ _ => rfl) (fun k n d => st76_0q k (view_all__view_Of_fn1_L0 k n) d)
def as76q : List AS := [.c (.dat false y7q), .fn 91 [[.int .i64]]]
def rs76q : RS := .c (.own y7q)
def pk76q : List K1q → RL rs76q.cells := fun x => (x, ())
def up76q : RL rs76q.cells → List K1q := fun d => d.1
def s76q (k : Nat) (d : AD as76q) := view_all__view_Of_fn1 k d.1 d.2.1
def R76q : Nat × Entry := (67, fun k nm args h => entry as76q rs76q (s76q k) pk76q nm args h)
theorem ev76q (k : Nat) (d : AD as76q) : evF E76q A76q k 1000 0 Proofs.Tryz.f67 (absArgs as76q d).1 (absArgs as76q d).2 (outM rs76q up76q) = s76q k d := by
  obtain ⟨_, _, _⟩ := d
  kernel_rfl
theorem F76q : FnOK Proofs.Tryz.prog R76q := fn_b (E := E76q) (A := A76q) (na := 0) (fn := Proofs.Tryz.f67) (S := s76q) (unpack := up76q) B76q (by kernel_rfl) (loopsOK_of (n := 1) (by kernel_rfl) fun i hi => match i, hi with | 0, _ => ⟨L76_0q, by kernel_rfl, lk76_0q⟩ | i + 1, hi => absurd hi (by omega)) (by kernel_rfl) (by kernel_rfl) (fun _ => rfl) ev76q

/-! ### giro/view.Of -/
noncomputable def E77q : Env := ⟨Proofs.Tryz.prog, fun _ => false, sumsOf [R76q]⟩
def A77q : Notes := ⟨[], []⟩
theorem B77q : EnvB E77q := env_n mixed_orders ⟨F76q, trivial⟩
def as77q : List AS := [.c (.dat false y7q), .c (.int .i64)]
def rs77q : RS := .c (.own y7q)
def pk77q : List K1q → RL rs77q.cells := fun x => (x, ())
def up77q : RL rs77q.cells → List K1q := fun d => d.1
def s77q (k : Nat) (d : AD as77q) := view_Of k d.1 d.2.1
def R77q : Nat × Entry := (64, fun k nm args h => entry as77q rs77q (s77q k) pk77q nm args h)
theorem ev77q (k : Nat) (d : AD as77q) : evF E77q A77q k 1000 0 Proofs.Tryz.f64 (absArgs as77q d).1 (absArgs as77q d).2 (outM rs77q up77q) = s77q k d := by
  obtain ⟨_, _, _⟩ := d
  kernel_rfl
theorem F77q : FnOK Proofs.Tryz.prog R77q := fn_b (E := E77q) (A := A77q) (na := 0) (fn := Proofs.Tryz.f64) (S := s77q) (unpack := up77q) B77q (by kernel_rfl) (loopsOK_none (by kernel_rfl)) (by kernel_rfl) (by kernel_rfl) (fun _ => rfl) ev77q

/-! ### slices.Clone[[]int,int] -/
noncomputable def E78q : Env := ⟨Proofs.Tryz.prog, fun _ => false, sumsOf []⟩
def A78q : Notes := ⟨[], []⟩
theorem B78q : EnvB E78q := env_n mixed_orders trivial
def as78q : List AS := [.c (.dat false (.int .i64))]
def rs78q : RS := .c (.own (.int .i64))
def pk78q : List Int → RL rs78q.cells := fun x => (x, ())
def up78q : RL rs78q.cells → List Int := fun d => d.1
def s78q (k : Nat) (d : AD as78q) := slices_Clone_int k d.1
def R78q : Nat × Entry := (66, fun k nm args h => entry as78q rs78q (fun d => slices_Clone_int k d.1) pk78q nm args h)
theorem nil78q (k : Nat) : evF E78q A78q k 1000 0 Proofs.Tryz.f66 [.c .nsl] (boxHp []) (outM rs78q up78q) = slices_Clone_int k [] := by kernel_rfl
theorem ev78q (k : Nat) (xs : List Int) : evF E78q A78q k 1000 0 Proofs.Tryz.f66 [.c (.nfl false (.int .i64) xs)] (boxHp []) (outM rs78q up78q) = slices_Clone_int k xs := by kernel_rfl
theorem F78q : FnOK Proofs.Tryz.prog R78q := fn_nil (E := E78q) (A := A78q) (na := 0) (fn := Proofs.Tryz.f66) (t := (.int .i64)) (S := slices_Clone_int) (unpack := up78q) B78q (by kernel_rfl) (loopsOK_none (by kernel_rfl)) (by kernel_rfl) (by kernel_rfl) (fun _ => rfl) (fun k x hx => (nil78q k).trans hx) (fun k xs x hx => (ev78q k xs).trans hx)

/-! ### giro/view.Heads$1 -/
noncomputable def E79q : Env := ⟨Proofs.Tryz.prog, fun _ => false, sumsOf []⟩
def A79q : Notes := ⟨[], []⟩
theorem B79q : EnvB E79q := env_n mixed_orders trivial
def as79q : List AX := [.agg [.int .i64, .int .i64, .int .i64, .int .i64, .int .i64, .int .i64, .int .i64], .ptr true [.own (.int .i64)]]
def rs79q : RS := .c (.bool)
def os79q : List (List RC) := [[.own (.int .i64)]]
def pk79q : Bool × (List Int) → RL (rs79q.cells ++ os79q.flatten) := fun x => (x.1, x.2, ())
def up79q : RL (rs79q.cells ++ os79q.flatten) → Bool × (List Int) := fun d => (d.1, d.2.1)
def s79q (k : Nat) (d : XD as79q) := view_Heads_fn1 k d.1 d.2.1 d.2.2.1 d.2.2.2.1 d.2.2.2.2.1 d.2.2.2.2.2.1 d.2.2.2.2.2.2.1 d.2.2.2.2.2.2.2.1
def R79q : Nat × Entry := (68, fun k nm args h => entryX as79q rs79q os79q (s79q k) pk79q nm args h)
theorem ev79q (k : Nat) (d : XD as79q) : evF E79q A79q k 1000 2 Proofs.Tryz.f68 (absArgsX as79q d).1 (absArgsX as79q d).2 (outXM as79q rs79q os79q up79q) = s79q k d := by
  obtain ⟨_, _, _, _, _, _, _, _, _⟩ := d
  kernel_rfl
theorem F79q : FnOK Proofs.Tryz.prog R79q := fn_x (E := E79q) (A := A79q) (na := 2) (fn := Proofs.Tryz.f68) (S := s79q) (unpack := up79q) B79q (by kernel_rfl) (loopsOK_none (by kernel_rfl)) (by kernel_rfl) (by kernel_rfl) (fun _ => rfl) (by kernel_rfl) ev79q

/-! ### giro/view.all -/
noncomputable def E80q : Env := ⟨Proofs.Tryz.prog, fun _ => false, sumsOf [R79q]⟩
def I80_0q : Spec := ⟨[(1, .c (.lit (.fn 68 [1001000]))), (5, .c (.lit (.osl 1001002 none))), (8, .c (.dat false y7q)), (9, .c (.int .i64)), (10, .c (.int .i64))], [.box true [.lit (.osl 1001001 none)], .arr true (.int .i64), .arr true y7q], [(5, none, y7q, false)]⟩
def X0_80_0q : Spec := ⟨[(1, .c (.lit (.fn 68 [1001000]))), (5, .c (.lit (.osl 1001002 none)))], [.box true [.lit (.osl 1001001 none)], .arr true (.int .i64), .arr true y7q], []⟩
def O80_0q : List (Ex × Spec) := [(.exit 0, X0_80_0q)]
def c80_0q (f : view_all__view_Heads_fn1_L0T) (d : I80_0q.den) : Option view_all__view_Heads_fn1_L0X := f d.1.2.2.1.1 d.1.2.2.2.1.1 d.1.2.2.2.2.1.1 d.2.2.1 d.2.2.2.1
def T80_0q : OutD O80_0q → view_all__view_Heads_fn1_L0X := fun d => (d.2.2.1, d.2.2.2.1)
def e80_0q (base : Nat) (x : view_all__view_Heads_fn1_L0X) (R : Type) (K : Ex → St → Option R) : Option R := K (.exit 0) (stOf base X0_80_0q (((), (), ()), ((), x.1, x.2, ())))
def L80_0q : LoopSum := ⟨I80_0q, O80_0q, view_all__view_Heads_fn1_L0X, fun k d => c80_0q (view_all__view_Heads_fn1_L0 k k) d, e80_0q⟩
def A80q : Notes := ⟨[], [(3, L80_0q)]⟩
theorem B80q : EnvB E80q := env_n mixed_orders ⟨F79q, trivial⟩
theorem st80_0q (k : Nat) (rec : view_all__view_Heads_fn1_L0T) (d : I80_0q.den) : c80_0q (view_all__view_Heads_fn1_L0b k rec) d = evC E80q A80q k 1000 2 23 (loopAt (bodyOf Proofs.Tryz.f67) 0) (stOf (1000 + loopBase) I80_0q d) (roundK 1000 I80_0q O80_0q T80_0q (c80_0q rec)) := by
  obtain ⟨⟨_, _, ⟨_, _⟩, ⟨_, _⟩, ⟨_, _⟩, _⟩, ⟨_, _, _, _⟩⟩ := d
  kernel_rfl
theorem lk80_0q : LoopOK Proofs.Tryz.prog 1000 2 23 (loopAt (bodyOf Proofs.Tryz.f67) 0) L80_0q :=
  loop_b (A := A80q) (inS := I80_0q) (outs := O80_0q) B80q (loopsOK_none (by kernel_rfl)) T80_0q e80_0q (fun _ _ _ => rfl) (fun k n d => c80_0q (view_all__view_Heads_fn1_L0 k n) d) (fun _ _ => rfl) (fun k n d => st80_0q k (view_all__view_Heads_fn1_L0 k n) d)
def as80q : List AX := [.c (.p (.dat false y7q)), .fn 68 [(true, [.own (.int .i64)])]]
def rs80q : RS := .c (.own y7q)
def os80q : List (List RC) := [[.own (.int .i64)]]
def pk80q : (List K1q) × (List Int) → RL (rs80q.cells ++ os80q.flatten) := fun x => (x.1, x.2, ())
def up80q : RL (rs80q.cells ++ os80q.flatten) → (List K1q) × (List Int) := fun d => (d.1, d.2.1)
def s80q (k : Nat) (d : XD as80q) := view_all__view_Heads_fn1 k d.1 d.2.1
def R80q : Nat × Entry := (67, fun k nm args h => entryX as80q rs80q os80q (s80q k) pk80q nm args h)
theorem ev80q (k : Nat) (d : XD as80q) : evF E80q A80q k 1000 2 Proofs.Tryz.f67 (absArgsX as80q d).1 (absArgsX as80q d).2 (outXM as80q rs80q os80q up80q) = s80q k d := by
  obtain ⟨_, _, _⟩ := d
  kernel_rfl
theorem F80q : FnOK Proofs.Tryz.prog R80q := fn_x (E := E80q) (A := A80q) (na := 2) (fn := Proofs.Tryz.f67) (S := s80q) (unpack := up80q) B80q (by kernel_rfl) (loopsOK_of (n := 1) (by kernel_rfl) fun i hi => match i, hi with | 0, _ => ⟨L80_0q, by kernel_rfl, lk80_0q⟩ | i + 1, hi => absurd hi (by omega)) (by kernel_rfl) (by kernel_rfl) (fun _ => rfl) (by kernel_rfl) ev80q

/-! ### giro/view.Heads -/
noncomputable def E81q : Env := ⟨Proofs.Tryz.prog, fun _ => false, sumsOf [R78q, R80q]⟩
def A81q : Notes := ⟨[], []⟩
theorem B81q : EnvB E81q := env_n mixed_orders ⟨F78q, F80q, trivial⟩
def as81q : List AS := [.c (.dat false y7q), .c (.dat false (.int .i64))]
def rs81q : RS := .c (.own y7q)
def pk81q : List K1q → RL rs81q.cells := fun x => (x, ())
def up81q : RL rs81q.cells → List K1q := fun d => d.1
def s81q (k : Nat) (d : AD as81q) := view_Heads k d.1 d.2.1
def R81q : Nat × Entry := (41, fun k nm args h => entry as81q rs81q (s81q k) pk81q nm args h)
theorem ev81q (k : Nat) (d : AD as81q) : evF E81q A81q k 1000 0 Proofs.Tryz.f41 (absArgs as81q d).1 (absArgs as81q d).2 (outM rs81q up81q) = s81q k d := by
  obtain ⟨_, _, _⟩ := d
  kernel_rfl
theorem F81q : FnOK Proofs.Tryz.prog R81q := fn_b (E := E81q) (A := A81q) (na := 0) (fn := Proofs.Tryz.f41) (S := s81q) (unpack := up81q) B81q (by kernel_rfl) (loopsOK_none (by kernel_rfl)) (by kernel_rfl) (by kernel_rfl) (fun _ => rfl) ev81q

/-! ### giro/knot.Most -/
noncomputable def E82q : Env := ⟨Proofs.Tryz.prog, fun _ => false, sumsOf [R10q, R77q, R81q, R35q]⟩
def I82_0q : Spec := ⟨[(3, .c (.lit (.ptr 1001000 0))), (6, .c (.lit (.osl 1001001 none))), (7, .c (.int .i64)), (8, .c (.lit (.osl 1001002 none))), (18, .c (.int .i64)), (19, .c (.int .i64))], [.box true [.dat false y3q, .dat false (.sl (.int .i64)), .dat false (.int .i64), .dat false (.sl (.int .i64))], .arr true (.int .i64), .arr true y7q], [(6, none, (.int .i64), false)]⟩
def X0_82_0q : Spec := ⟨[(3, .c (.lit (.ptr 1001000 0))), (6, .c (.lit (.osl 1001001 none))), (7, .c (.int .i64)), (8, .c (.lit (.osl 1001002 none)))], [.box true [.dat false y3q, .dat false (.sl (.int .i64)), .dat false (.int .i64), .dat false (.sl (.int .i64))], .arr true (.int .i64), .arr true y7q], []⟩
def O82_0q : List (Ex × Spec) := [(.exit 0, X0_82_0q)]
def c82_0q (f : knot_Most_L0T) (d : I82_0q.den) : Option knot_Most_L0X := f d.1.2.2.1.1 d.1.2.2.2.2.1.1 d.1.2.2.2.2.2.1.1 d.2.1.1 d.2.1.2.1 d.2.1.2.2.1 d.2.1.2.2.2.1 d.2.2.1 d.2.2.2.1
def T82_0q : OutD O82_0q → knot_Most_L0X := fun d => (d.1.2.2.1.1, d.2.1.1, d.2.1.2.1, d.2.1.2.2.1, d.2.1.2.2.2.1, d.2.2.1, d.2.2.2.1)
def e82_0q (base : Nat) (x : knot_Most_L0X) (R : Type) (K : Ex → St → Option R) : Option R := K (.exit 0) (stOf base X0_82_0q (((), (), (x.1, ()), (), ()), ((x.2.1, x.2.2.1, x.2.2.2.1, x.2.2.2.2.1, ()), x.2.2.2.2.2.1, x.2.2.2.2.2.2, ())))
def L82_0q : LoopSum := ⟨I82_0q, O82_0q, knot_Most_L0X, fun k d => c82_0q (knot_Most_L0 k k) d, e82_0q⟩
def I82_1q : Spec := ⟨[(3, .c (.lit (.ptr 1001000 0))), (6, .c (.lit (.osl 1001001 none))), (7, .c (.int .i64)), (8, .c (.lit (.osl 1001002 none))), (42, .c (.lit (.osl 1001003 none))), (43, .c (.int .i64)), (44, .c (.int .i64))], [.box true [.dat false y3q, .dat false (.sl (.int .i64)), .dat false (.int .i64), .dat false (.sl (.int .i64))], .arr true (.int .i64), .arr true y7q, .arr true (.int .i64)], []⟩
def X0_82_1q : Spec := ⟨[(3, .c (.lit (.ptr 1001000 0))), (6, .c (.lit (.osl 1001001 none))), (7, .c (.int .i64)), (8, .c (.lit (.osl 1001002 none)))], [.box true [.dat false y3q, .dat false (.sl (.int .i64)), .dat false (.int .i64), .dat false (.sl (.int .i64))], .arr true (.int .i64), .arr true y7q], []⟩
def O82_1q : List (Ex × Spec) := [(.exit 4, X0_82_1q)]
def c82_1q (f : knot_Most_L2T) (d : I82_1q.den) : Option knot_Most_L2X := f d.1.2.2.1.1 d.1.2.2.2.2.2.1.1 d.1.2.2.2.2.2.2.1.1 d.2.1.1 d.2.1.2.1 d.2.1.2.2.1 d.2.1.2.2.2.1 d.2.2.1 d.2.2.2.1 d.2.2.2.2.1
def T82_1q : OutD O82_1q → knot_Most_L2X := fun d => (d.1.2.2.1.1, d.2.1.1, d.2.1.2.1, d.2.1.2.2.1, d.2.1.2.2.2.1, d.2.2.1, d.2.2.2.1)
def e82_1q (base : Nat) (x : knot_Most_L2X) (R : Type) (K : Ex → St → Option R) : Option R := K (.exit 4) (stOf base X0_82_1q (((), (), (x.1, ()), (), ()), ((x.2.1, x.2.2.1, x.2.2.2.1, x.2.2.2.2.1, ()), x.2.2.2.2.2.1, x.2.2.2.2.2.2, ())))
def L82_1q : LoopSum := ⟨I82_1q, O82_1q, knot_Most_L2X, fun k d => c82_1q (knot_Most_L2 k k) d, e82_1q⟩
def I82_2q : Spec := ⟨[(3, .c (.lit (.ptr 1001000 0))), (6, .c (.lit (.osl 1001001 none))), (7, .c (.int .i64)), (8, .c (.lit (.osl 1001002 none)))], [.box true [.dat false y3q, .dat false (.sl (.int .i64)), .dat false (.int .i64), .dat false (.sl (.int .i64))], .arr true (.int .i64), .arr true y7q], []⟩
def X0_82_2q : Spec := ⟨[(6, .c (.lit (.osl 1001000 none))), (7, .c (.int .i64))], [.arr true (.int .i64)], []⟩
def O82_2q : List (Ex × Spec) := [(.ret, X0_82_2q)]
def c82_2q (f : knot_Most_L1T) (d : I82_2q.den) : Option (Int × (List Int)) := f d.1.2.2.1.1 d.2.1.1 d.2.1.2.1 d.2.1.2.2.1 d.2.1.2.2.2.1 d.2.2.1 d.2.2.2.1
def T82_2q : OutD O82_2q → (Int × (List Int)) := fun d => (d.1.2.1.1, d.2.1)
def e82_2q (base : Nat) (x : (Int × (List Int))) (R : Type) (K : Ex → St → Option R) : Option R := K .ret (stOf base X0_82_2q (((), (x.1, ()), ()), (x.2, ())))
def L82_2q : LoopSum := ⟨I82_2q, O82_2q, (Int × (List Int)), fun k d => c82_2q (knot_Most_L1 k k) d, e82_2q⟩
def A82q : Notes := ⟨[], [(3, L82_0q), (12, L82_1q), (7, L82_2q)]⟩
theorem B82q : EnvB E82q := env_n mixed_orders ⟨F10q, F77q, F81q, F35q, trivial⟩
theorem st82_0q (k : Nat) (rec : knot_Most_L0T) (d : I82_0q.den) : c82_0q (knot_Most_L0b k rec) d = evC E82q A82q k 1000 0 55 (loopAt (bodyOf Proofs.Tryz.f40) 0) (stOf (1000 + loopBase) I82_0q d) (roundK 1000 I82_0q O82_0q T82_0q (c82_0q rec)) := by
  obtain ⟨⟨_, _, ⟨_, _⟩, _, ⟨_, _⟩, ⟨_, _⟩, _⟩, ⟨⟨_, _, _, _, _⟩, _, _, _⟩⟩ := d
  kernel_rfl
theorem lk82_0q : LoopOK Proofs.Tryz.prog 1000 0 55 (loopAt (bodyOf Proofs.Tryz.f40) 0) L82_0q :=
  loop_b (A := A82q) (inS := I82_0q) (outs := O82_0q) B82q (loopsOK_none (by kernel_rfl)) T82_0q e82_0q (fun _ _ _ => rfl) (fun k n d => c82_0q (knot_Most_L0 k n) d) (fun _ _ => rfl) (fun k n d => st82_0q k (knot_Most_L0 k n) d)
theorem st82_1q (k : Nat) (rec : knot_Most_L2T) (d : I82_1q.den) : c82_1q (knot_Most_L2b k rec) d = evC E82q A82q k 1000 0 55 (loopAt (loopAt (bodyOf Proofs.Tryz.f40) 1) 0) (stOf (1000 + loopBase) I82_1q d) (roundK 1000 I82_1q O82_1q T82_1q (c82_1q rec)) := by
  obtain ⟨⟨_, _, ⟨_, _⟩, _, _, ⟨_, _⟩, ⟨_, _⟩, _⟩, ⟨⟨_, _, _, _, _⟩, _, _, _, _⟩⟩ := d
  kernel_rfl
theorem lk82_1q : LoopOK Proofs.Tryz.prog 1000 0 55 (loopAt (loopAt (bodyOf Proofs.Tryz.f40) 1) 0) L82_1q :=
  loop_b (A := A82q) (inS := I82_1q) (outs := O82_1q) B82q (loopsOK_none (by kernel_rfl)) T82_1q e82_1q (fun _ _ _ => rfl) (fun k n d => c82_1q (knot_Most_L2 k n) d) (fun _ _ => rfl) (fun k n d => st82_1q k (knot_Most_L2 k n) d)
theorem st82_2q (k : Nat) (rec : knot_Most_L1T) (d : I82_2q.den) : c82_2q (knot_Most_L1b k rec) d = evC E82q A82q k 1000 0 55 (loopAt (bodyOf Proofs.Tryz.f40) 1) (stOf (1000 + loopBase) I82_2q d) (roundK 1000 I82_2q O82_2q T82_2q (c82_2q rec)) := by
  obtain ⟨⟨_, _, ⟨_, _⟩, _, _⟩, ⟨⟨_, _, _, _, _⟩, _, _, _⟩⟩ := d
  kernel_rfl
theorem lk82_2q : LoopOK Proofs.Tryz.prog 1000 0 55 (loopAt (bodyOf Proofs.Tryz.f40) 1) L82_2q :=
  loop_b (A := A82q) (inS := I82_2q) (outs := O82_2q) B82q (loopsOK_of (n := 1) (by kernel_rfl) fun i hi => match i, hi with | 0, _ => ⟨L82_1q, by kernel_rfl, lk82_1q⟩ | i + 1, hi => absurd hi (by omega)) T82_2q e82_2q (fun _ _ _ => rfl) (fun k n d => c82_2q (knot_Most_L1 k n) d) (fun _ _ => rfl) (fun k n d => st82_2q k (knot_Most_L1 k n) d)
def as82q : List AS := [.agg [.dat false y3q, .dat false (.sl (.int .i64)), .dat false (.int .i64), .dat false (.sl (.int .i64))], .c (.dat false y7q), .c (.int .i64)]
def rs82q : RS := .tup [(false, [.own (.int .i64)]), (false, [.int .i64])]
def pk82q : (List Int) × Int → RL rs82q.cells := fun x => (x.1, x.2, ())
def up82q : RL rs82q.cells → (List Int) × Int := fun d => (d.1, d.2.1)
def s82q (k : Nat) (d : AD as82q) := knot_Most k d.1 d.2.1 d.2.2.1 d.2.2.2.1 d.2.2.2.2.1 d.2.2.2.2.2.1
def R82q : Nat × Entry := (40, fun k nm args h => entry as82q rs82q (s82q k) pk82q nm args h)
theorem ev82q (k : Nat) (d : AD as82q) : evF E82q A82q k 1000 0 Proofs.Tryz.f40 (absArgs as82q d).1 (absArgs as82q d).2 (outM rs82q up82q) = s82q k d := by
  obtain ⟨_, _, _, _, _, _, _⟩ := d
  kernel_rfl
theorem F82q : FnOK Proofs.Tryz.prog R82q := fn_b (E := E82q) (A := A82q) (na := 0) (fn := Proofs.Tryz.f40) (S := s82q) (unpack := up82q) B82q (by kernel_rfl) (loopsOK_of (n := 2) (by kernel_rfl) fun i hi => match i, hi with | 0, _ => ⟨L82_0q, by kernel_rfl, lk82_0q⟩ | 1, _ => ⟨L82_2q, by kernel_rfl, lk82_2q⟩ | i + 2, hi => absurd hi (by omega)) (by kernel_rfl) (by kernel_rfl) (fun _ => rfl) ev82q

/-! ### giro/knot.Run -/
noncomputable def E83q : Env := ⟨Proofs.Tryz.prog, fun _ => false, sumsOf [R82q, R10q, R81q, R63q, R70q]⟩
def I83_0q : Spec := ⟨[(6, .c (.lit (.ptr 1001000 0))), (7, .c (.dat true y7q)), (11, .c (.lit (.osl 1001001 none))), (38, .c (.lit (.osl 1001001 none))), (39, .c (.int .i64)), (40, .c (.int .i64))], [.box true [.dat true y3q, .dat true (.sl (.int .i64)), .dat true (.int .i64), .dat true (.sl (.int .i64))], .arr true y7q], []⟩
def X0_83_0q : Spec := ⟨[(6, .c (.lit (.ptr 1001000 0))), (7, .c (.dat true y7q)), (11, .c (.lit (.osl 1001001 none)))], [.box true [.dat true y3q, .dat true (.sl (.int .i64)), .dat true (.int .i64), .dat true (.sl (.int .i64))], .arr true y7q], []⟩
def O83_0q : List (Ex × Spec) := [(.exit 0, X0_83_0q)]
def c83_0q (f : knot_Run_L0T) (d : I83_0q.den) : Option knot_Run_L0X := f d.1.2.1.1 d.1.2.2.2.2.1.1 d.1.2.2.2.2.2.1.1 d.2.1.1 d.2.1.2.1 d.2.1.2.2.1 d.2.1.2.2.2.1 d.2.2.1
def T83_0q : OutD O83_0q → knot_Run_L0X := fun d => (d.1.2.1.1, d.2.1.1, d.2.1.2.1, d.2.1.2.2.1, d.2.1.2.2.2.1, d.2.2.1)
def e83_0q (base : Nat) (x : knot_Run_L0X) (R : Type) (K : Ex → St → Option R) : Option R := K (.exit 0) (stOf base X0_83_0q (((), (x.1, ()), (), ()), ((x.2.1, x.2.2.1, x.2.2.2.1, x.2.2.2.2.1, ()), x.2.2.2.2.2, ())))
def L83_0q : LoopSum := ⟨I83_0q, O83_0q, knot_Run_L0X, fun k d => c83_0q (knot_Run_L0 k k) d, e83_0q⟩
def A83q : Notes := ⟨[], [(8, L83_0q)]⟩
theorem B83q : EnvB E83q := env_n mixed_orders ⟨F82q, F10q, F81q, F63q, F70q, trivial⟩
theorem st83_0q (k : Nat) (rec : knot_Run_L0T) (d : I83_0q.den) : c83_0q (knot_Run_L0b k rec) d = evC E83q A83q k 1000 0 56 (loopAt (bodyOf Proofs.Tryz.f19) 0) (stOf (1000 + loopBase) I83_0q d) (roundK 1000 I83_0q O83_0q T83_0q (c83_0q rec)) := by
  obtain ⟨⟨_, ⟨_, _⟩, _, _, ⟨_, _⟩, ⟨_, _⟩, _⟩, ⟨⟨_, _, _, _, _⟩, _, _⟩⟩ := d
  kernel_rfl
theorem lk83_0q : LoopOK Proofs.Tryz.prog 1000 0 56 (loopAt (bodyOf Proofs.Tryz.f19) 0) L83_0q :=
  loop_b (A := A83q) (inS := I83_0q) (outs := O83_0q) B83q (loopsOK_none (by kernel_rfl)) T83_0q e83_0q (fun _ _ _ => rfl) (fun k n d => c83_0q (knot_Run_L0 k n) d) (fun _ _ => rfl) (fun k n d => st83_0q k (knot_Run_L0 k n) d)
def as83q : List AS := [.agg [.dat true y3q, .dat true (.sl (.int .i64)), .dat true (.int .i64), .dat true (.sl (.int .i64))], .c (.dat true y7q), .c (.int .i64)]
def rs83q : RS := .tup [(true, [.fro y3q, .fro (.sl (.int .i64)), .fro (.int .i64), .fro (.sl (.int .i64))]), (false, [.fro y7q]), (false, [.own y7q])]
def pk83q : (List K2q) × (List (List Int)) × (List Int) × (List (List Int)) × (List K1q) × (List K1q) → RL rs83q.cells := fun x => (x.1, x.2.1, x.2.2.1, x.2.2.2.1, x.2.2.2.2.1, x.2.2.2.2.2, ())
def up83q : RL rs83q.cells → (List K2q) × (List (List Int)) × (List Int) × (List (List Int)) × (List K1q) × (List K1q) := fun d => (d.1, d.2.1, d.2.2.1, d.2.2.2.1, d.2.2.2.2.1, d.2.2.2.2.2.1)
def s83q (k : Nat) (d : AD as83q) := knot_Run k d.1 d.2.1 d.2.2.1 d.2.2.2.1 d.2.2.2.2.1 d.2.2.2.2.2.1
def R83q : Nat × Entry := (19, fun k nm args h => entry as83q rs83q (s83q k) pk83q nm args h)
theorem ev83q (k : Nat) (d : AD as83q) : evF E83q A83q k 1000 0 Proofs.Tryz.f19 (absArgs as83q d).1 (absArgs as83q d).2 (outM rs83q up83q) = s83q k d := by
  obtain ⟨_, _, _, _, _, _, _⟩ := d
  kernel_rfl
theorem F83q : FnOK Proofs.Tryz.prog R83q := fn_b (E := E83q) (A := A83q) (na := 0) (fn := Proofs.Tryz.f19) (S := s83q) (unpack := up83q) B83q (by kernel_rfl) (loopsOK_of (n := 1) (by kernel_rfl) fun i hi => match i, hi with | 0, _ => ⟨L83_0q, by kernel_rfl, lk83_0q⟩ | i + 1, hi => absurd hi (by omega)) (by kernel_rfl) (by kernel_rfl) (fun _ => rfl) ev83q

/-! ### giro/settle.Run -/
noncomputable def E84q : Env := ⟨Proofs.Tryz.prog, fun _ => false, sumsOf [R74q, R83q]⟩
def A84q : Notes := ⟨[], []⟩
theorem B84q : EnvB E84q := env_n mixed_orders ⟨F74q, F83q, trivial⟩
def as84q : List AS := [.agg [.dat true y3q, .dat true (.sl (.int .i64)), .dat true (.int .i64), .dat true (.sl (.int .i64))], .c (.dat true y7q), .c (.int .i64), .c (.bool)]
def rs84q : RS := .tup [(true, [.fro y3q, .fro (.sl (.int .i64)), .fro (.int .i64), .fro (.sl (.int .i64))]), (false, [.fro y7q]), (false, [.own y7q])]
def pk84q : (List K2q) × (List (List Int)) × (List Int) × (List (List Int)) × (List K1q) × (List K1q) → RL rs84q.cells := fun x => (x.1, x.2.1, x.2.2.1, x.2.2.2.1, x.2.2.2.2.1, x.2.2.2.2.2, ())
def up84q : RL rs84q.cells → (List K2q) × (List (List Int)) × (List Int) × (List (List Int)) × (List K1q) × (List K1q) := fun d => (d.1, d.2.1, d.2.2.1, d.2.2.2.1, d.2.2.2.2.1, d.2.2.2.2.2.1)
def s84q (k : Nat) (d : AD as84q) := settle_Run k d.1 d.2.1 d.2.2.1 d.2.2.2.1 d.2.2.2.2.1 d.2.2.2.2.2.1 d.2.2.2.2.2.2.1
def R84q : Nat × Entry := (7, fun k nm args h => entry as84q rs84q (s84q k) pk84q nm args h)
theorem ev84q (k : Nat) (d : AD as84q) : evF E84q A84q k 1000 0 Proofs.Tryz.f7 (absArgs as84q d).1 (absArgs as84q d).2 (outM rs84q up84q) = s84q k d := by
  obtain ⟨_, _, _, _, _, _, _, _⟩ := d
  kernel_rfl
theorem F84q : FnOK Proofs.Tryz.prog R84q := fn_b (E := E84q) (A := A84q) (na := 0) (fn := Proofs.Tryz.f7) (S := s84q) (unpack := up84q) B84q (by kernel_rfl) (loopsOK_none (by kernel_rfl)) (by kernel_rfl) (by kernel_rfl) (fun _ => rfl) ev84q

/-! ### giro/giroref11.Ready -/
noncomputable def E85q : Env := ⟨Proofs.Tryz.prog, fun _ => false, sumsOf []⟩
def A85q : Notes := ⟨[], []⟩
theorem B85q : EnvB E85q := env_n mixed_orders trivial
def as85q : List AS := [.agg [.int .i64, .int .i64, .int .i64, .int .i64, .int .i64, .int .i64, .int .i64], .c (.int .i64)]
def rs85q : RS := .c (.bool)
def pk85q : Bool → RL rs85q.cells := fun x => (x, ())
def up85q : RL rs85q.cells → Bool := fun d => d.1
def s85q (k : Nat) (d : AD as85q) := giroref11_Ready k d.1 d.2.1 d.2.2.1 d.2.2.2.1 d.2.2.2.2.1 d.2.2.2.2.2.1 d.2.2.2.2.2.2.1 d.2.2.2.2.2.2.2.1
def R85q : Nat × Entry := (82, fun k nm args h => entry as85q rs85q (s85q k) pk85q nm args h)
theorem ev85q (k : Nat) (d : AD as85q) : evF E85q A85q k 1000 0 Proofs.Tryz.f82 (absArgs as85q d).1 (absArgs as85q d).2 (outM rs85q up85q) = s85q k d := by
  obtain ⟨_, _, _, _, _, _, _, _, _⟩ := d
  kernel_rfl
theorem F85q : FnOK Proofs.Tryz.prog R85q := fn_b (E := E85q) (A := A85q) (na := 0) (fn := Proofs.Tryz.f82) (S := s85q) (unpack := up85q) B85q (by kernel_rfl) (loopsOK_none (by kernel_rfl)) (by kernel_rfl) (by kernel_rfl) (fun _ => rfl) ev85q

/-! ### giro/giroref14.Ready -/
noncomputable def E86q : Env := ⟨Proofs.Tryz.prog, fun _ => false, sumsOf [R85q]⟩
def I86_0q : Spec := ⟨[(0, .c (.dat false y7q)), (1, .c (.int .i64)), (5, .c (.lit (.osl 1001000 none))), (6, .c (.int .i64))], [.arr true y7q], [(5, none, y7q, false)]⟩
def X0_86_0q : Spec := ⟨[(5, .c (.lit (.osl 1001000 none)))], [.arr true y7q], []⟩
def O86_0q : List (Ex × Spec) := [(.exit 0, X0_86_0q)]
def c86_0q (f : giroref14_Ready_L0T) (d : I86_0q.den) : Option giroref14_Ready_L0X := f d.1.1.1 d.1.2.1.1 d.1.2.2.2.1.1 d.2.1
def T86_0q : OutD O86_0q → giroref14_Ready_L0X := fun d => d.2.1
def e86_0q (base : Nat) (x : giroref14_Ready_L0X) (R : Type) (K : Ex → St → Option R) : Option R := K (.exit 0) (stOf base X0_86_0q (((), ()), (x, ())))
def L86_0q : LoopSum := ⟨I86_0q, O86_0q, giroref14_Ready_L0X, fun k d => c86_0q (giroref14_Ready_L0 k k) d, e86_0q⟩
def A86q : Notes := ⟨[], [(3, L86_0q)]⟩
theorem B86q : EnvB E86q := env_n mixed_orders ⟨F85q, trivial⟩
theorem st86_0q (k : Nat) (rec : giroref14_Ready_L0T) (d : I86_0q.den) : c86_0q (giroref14_Ready_L0b k rec) d = evC E86q A86q k 1000 0 27 (loopAt (bodyOf Proofs.Tryz.f49) 0) (stOf (1000 + loopBase) I86_0q d) (roundK 1000 I86_0q O86_0q T86_0q (c86_0q rec)) := by
  obtain ⟨⟨⟨_, _⟩, ⟨_, _⟩, _, ⟨_, _⟩, _⟩, ⟨_, _⟩⟩ := d
  kernel_rfl
theorem lk86_0q : LoopOK Proofs.Tryz.prog 1000 0 27 (loopAt (bodyOf Proofs.Tryz.f49) 0) L86_0q :=
  loop_b (A := A86q) (inS := I86_0q) (outs := O86_0q) B86q (loopsOK_none (by kernel_rfl)) T86_0q e86_0q (fun _ _ _ => rfl) (fun k n d => c86_0q (giroref14_Ready_L0 k n) d) (fun _ _ => rfl) (fun k n d => st86_0q k (giroref14_Ready_L0 k n) d)
def as86q : List AS := [.c (.dat false y7q), .c (.int .i64)]
def rs86q : RS := .c (.own y7q)
def pk86q : List K1q → RL rs86q.cells := fun x => (x, ())
def up86q : RL rs86q.cells → List K1q := fun d => d.1
def s86q (k : Nat) (d : AD as86q) := giroref14_Ready k d.1 d.2.1
def R86q : Nat × Entry := (49, fun k nm args h => entry as86q rs86q (s86q k) pk86q nm args h)
theorem ev86q (k : Nat) (d : AD as86q) : evF E86q A86q k 1000 0 Proofs.Tryz.f49 (absArgs as86q d).1 (absArgs as86q d).2 (outM rs86q up86q) = s86q k d := by
  obtain ⟨_, _, _⟩ := d
  kernel_rfl
theorem F86q : FnOK Proofs.Tryz.prog R86q := fn_b (E := E86q) (A := A86q) (na := 0) (fn := Proofs.Tryz.f49) (S := s86q) (unpack := up86q) B86q (by kernel_rfl) (loopsOK_of (n := 1) (by kernel_rfl) fun i hi => match i, hi with | 0, _ => ⟨L86_0q, by kernel_rfl, lk86_0q⟩ | i + 1, hi => absurd hi (by omega)) (by kernel_rfl) (by kernel_rfl) (fun _ => rfl) ev86q

/-! ### giro/giroref14.Of -/
noncomputable def E87q : Env := ⟨Proofs.Tryz.prog, fun _ => false, sumsOf []⟩
def I87_0q : Spec := ⟨[(0, .c (.dat false y7q)), (1, .c (.int .i64)), (5, .c (.lit (.osl 1001000 none))), (6, .c (.int .i64))], [.arr true y7q], [(5, none, y7q, false)]⟩
def X0_87_0q : Spec := ⟨[(5, .c (.lit (.osl 1001000 none)))], [.arr true y7q], []⟩
def O87_0q : List (Ex × Spec) := [(.exit 0, X0_87_0q)]
def c87_0q (f : giroref14_Of_L0T) (d : I87_0q.den) : Option giroref14_Of_L0X := f d.1.1.1 d.1.2.1.1 d.1.2.2.2.1.1 d.2.1
def T87_0q : OutD O87_0q → giroref14_Of_L0X := fun d => d.2.1
def e87_0q (base : Nat) (x : giroref14_Of_L0X) (R : Type) (K : Ex → St → Option R) : Option R := K (.exit 0) (stOf base X0_87_0q (((), ()), (x, ())))
def L87_0q : LoopSum := ⟨I87_0q, O87_0q, giroref14_Of_L0X, fun k d => c87_0q (giroref14_Of_L0 k k) d, e87_0q⟩
def A87q : Notes := ⟨[], [(3, L87_0q)]⟩
theorem B87q : EnvB E87q := env_n mixed_orders trivial
theorem st87_0q (k : Nat) (rec : giroref14_Of_L0T) (d : I87_0q.den) : c87_0q (giroref14_Of_L0b k rec) d = evC E87q A87q k 1000 0 28 (loopAt (bodyOf Proofs.Tryz.f55) 0) (stOf (1000 + loopBase) I87_0q d) (roundK 1000 I87_0q O87_0q T87_0q (c87_0q rec)) := by
  obtain ⟨⟨⟨_, _⟩, ⟨_, _⟩, _, ⟨_, _⟩, _⟩, ⟨_, _⟩⟩ := d
  kernel_rfl
theorem lk87_0q : LoopOK Proofs.Tryz.prog 1000 0 28 (loopAt (bodyOf Proofs.Tryz.f55) 0) L87_0q :=
  loop_b (A := A87q) (inS := I87_0q) (outs := O87_0q) B87q (loopsOK_none (by kernel_rfl)) T87_0q e87_0q (fun _ _ _ => rfl) (fun k n d => c87_0q (giroref14_Of_L0 k n) d) (fun _ _ => rfl) (fun k n d => st87_0q k (giroref14_Of_L0 k n) d)
def as87q : List AS := [.c (.dat false y7q), .c (.int .i64)]
def rs87q : RS := .c (.own y7q)
def pk87q : List K1q → RL rs87q.cells := fun x => (x, ())
def up87q : RL rs87q.cells → List K1q := fun d => d.1
def s87q (k : Nat) (d : AD as87q) := giroref14_Of k d.1 d.2.1
def R87q : Nat × Entry := (55, fun k nm args h => entry as87q rs87q (s87q k) pk87q nm args h)
theorem ev87q (k : Nat) (d : AD as87q) : evF E87q A87q k 1000 0 Proofs.Tryz.f55 (absArgs as87q d).1 (absArgs as87q d).2 (outM rs87q up87q) = s87q k d := by
  obtain ⟨_, _, _⟩ := d
  kernel_rfl
theorem F87q : FnOK Proofs.Tryz.prog R87q := fn_b (E := E87q) (A := A87q) (na := 0) (fn := Proofs.Tryz.f55) (S := s87q) (unpack := up87q) B87q (by kernel_rfl) (loopsOK_of (n := 1) (by kernel_rfl) fun i hi => match i, hi with | 0, _ => ⟨L87_0q, by kernel_rfl, lk87_0q⟩ | i + 1, hi => absurd hi (by omega)) (by kernel_rfl) (by kernel_rfl) (fun _ => rfl) ev87q

/-! ### giro/giroref14.May -/
noncomputable def E88q : Env := ⟨Proofs.Tryz.prog, fun t => [42].any (Nat.beq t), sumsOf [R86q, R87q]⟩
def I88_0q : Spec := ⟨[(5, .c (.lit (.osl 1001000 none))), (6, .c (.lit (.osl 1001001 none))), (7, .c (.int .i64)), (8, .c (.lit (.osl 1001002 none))), (9, .c (.bool)), (10, .c (.int .i64))], [.arr true y7q, .arr true y7q, .arr true y7q], []⟩
def X0_88_0q : Spec := ⟨[(5, .c (.lit (.osl 1001000 none))), (6, .c (.lit (.osl 1001001 none))), (7, .c (.int .i64)), (8, .c (.lit (.osl 1001002 none))), (9, .c (.bool))], [.arr true y7q, .arr true y7q, .arr true y7q], []⟩
def O88_0q : List (Ex × Spec) := [(.exit 2, X0_88_0q)]
def c88_0q (f : giroref14_May_L1T) (d : I88_0q.den) : Option giroref14_May_L1X := f d.1.2.2.1.1 d.1.2.2.2.2.1.1 d.1.2.2.2.2.2.1.1 d.2.1 d.2.2.1 d.2.2.2.1
def T88_0q : OutD O88_0q → giroref14_May_L1X := fun d => (d.1.2.2.1.1, d.1.2.2.2.2.1.1, d.2.1, d.2.2.1, d.2.2.2.1)
def e88_0q (base : Nat) (x : giroref14_May_L1X) (R : Type) (K : Ex → St → Option R) : Option R := K (.exit 2) (stOf base X0_88_0q (((), (), (x.1, ()), (), (x.2.1, ()), ()), (x.2.2.1, x.2.2.2.1, x.2.2.2.2, ())))
def L88_0q : LoopSum := ⟨I88_0q, O88_0q, giroref14_May_L1X, fun k d => c88_0q (giroref14_May_L1 k k) d, e88_0q⟩
def I88_1q : Spec := ⟨[(5, .c (.lit (.osl 1001000 none))), (6, .c (.lit (.osl 1001001 none))), (7, .c (.int .i64))], [.arr true y7q, .arr true y7q], [(6, none, y7q, false)]⟩
def X0_88_1q : Spec := ⟨[(6, .c (.lit (.osl 1001000 none)))], [.arr true y7q], []⟩
def O88_1q : List (Ex × Spec) := [(.exit 0, X0_88_1q)]
def c88_1q (f : giroref14_May_L0T) (d : I88_1q.den) : Option giroref14_May_L0X := f d.1.2.2.1.1 d.2.1 d.2.2.1
def T88_1q : OutD O88_1q → giroref14_May_L0X := fun d => d.2.1
def e88_1q (base : Nat) (x : giroref14_May_L0X) (R : Type) (K : Ex → St → Option R) : Option R := K (.exit 0) (stOf base X0_88_1q (((), ()), (x, ())))
def L88_1q : LoopSum := ⟨I88_1q, O88_1q, giroref14_May_L0X, fun k d => c88_1q (giroref14_May_L0 k k) d, e88_1q⟩
def A88q : Notes := ⟨[], [(9, L88_0q), (4, L88_1q)]⟩
theorem B88q : EnvB E88q := env_b (eqOK_flat (fun t h => eqT_mem (p := fun t => Proofs.Tryz.prog.keyTypeAt 8 t && !Proofs.Tryz.prog.eqGuardType Proofs.Tryz.prog.depth t) (l := [42]) (List.forall_mem_cons.2 ⟨by kernel_rfl, List.forall_mem_nil _⟩) t h)) mixed_orders ⟨F86q, F87q, trivial⟩
theorem st88_0q (k : Nat) (rec : giroref14_May_L1T) (d : I88_0q.den) : c88_0q (giroref14_May_L1b k rec) d = evC E88q A88q k 1000 0 61 (loopAt (loopAt (bodyOf Proofs.Tryz.f29) 0) 0) (stOf (1000 + loopBase) I88_0q d) (roundK 1000 I88_0q O88_0q T88_0q (c88_0q rec)) := by
  obtain ⟨⟨_, _, ⟨_, _⟩, _, ⟨_, _⟩, ⟨_, _⟩, _⟩, ⟨_, _, _, _⟩⟩ := d
  kernel_rfl
theorem lk88_0q : LoopOK Proofs.Tryz.prog 1000 0 61 (loopAt (loopAt (bodyOf Proofs.Tryz.f29) 0) 0) L88_0q :=
  loop_b (A := A88q) (inS := I88_0q) (outs := O88_0q) B88q (loopsOK_none (by kernel_rfl)) T88_0q e88_0q (fun _ _ _ => rfl) (fun k n d => c88_0q (giroref14_May_L1 k n) d) (fun _ _ => rfl) (fun k n d => st88_0q k (giroref14_May_L1 k n) d)
theorem st88_1q (k : Nat) (rec : giroref14_May_L0T) (d : I88_1q.den) : c88_1q (giroref14_May_L0b k rec) d = evC E88q A88q k 1000 0 61 (loopAt (bodyOf Proofs.Tryz.f29) 0) (stOf (1000 + loopBase) I88_1q d) (roundK 1000 I88_1q O88_1q T88_1q (c88_1q rec)) := by
  obtain ⟨⟨_, _, ⟨_, _⟩, _⟩, ⟨_, _, _⟩⟩ := d
  kernel_rfl
theorem lk88_1q : LoopOK Proofs.Tryz.prog 1000 0 61 (loopAt (bodyOf Proofs.Tryz.f29) 0) L88_1q :=
  loop_b (A := A88q) (inS := I88_1q) (outs := O88_1q) B88q (loopsOK_of (n := 1) (by kernel_rfl) fun i hi => match i, hi with | 0, _ => ⟨L88_0q, by kernel_rfl, lk88_0q⟩ | i + 1, hi => absurd hi (by omega)) T88_1q e88_1q (fun _ _ _ => rfl) (fun k n d => c88_1q (giroref14_May_L0 k n) d) (fun _ _ => rfl) (fun k n d => st88_1q k (giroref14_May_L0 k n) d)
def as88q : List AS := [.c (.dat false y7q), .c (.int .i64)]
def rs88q : RS := .c (.own y7q)
def pk88q : List K1q → RL rs88q.cells := fun x => (x, ())
def up88q : RL rs88q.cells → List K1q := fun d => d.1
def s88q (k : Nat) (d : AD as88q) := giroref14_May k d.1 d.2.1
def R88q : Nat × Entry := (29, fun k nm args h => entry as88q rs88q (s88q k) pk88q nm args h)
theorem ev88q (k : Nat) (d : AD as88q) : evF E88q A88q k 1000 0 Proofs.Tryz.f29 (absArgs as88q d).1 (absArgs as88q d).2 (outM rs88q up88q) = s88q k d := by
  obtain ⟨_, _, _⟩ := d
  kernel_rfl
theorem F88q : FnOK Proofs.Tryz.prog R88q := fn_b (E := E88q) (A := A88q) (na := 0) (fn := Proofs.Tryz.f29) (S := s88q) (unpack := up88q) B88q (by kernel_rfl) (loopsOK_of (n := 1) (by kernel_rfl) fun i hi => match i, hi with | 0, _ => ⟨L88_1q, by kernel_rfl, lk88_1q⟩ | i + 1, hi => absurd hi (by omega)) (by kernel_rfl) (by kernel_rfl) (fun _ => rfl) ev88q

/-! ### giro/giroref15.May -/
noncomputable def E89q : Env := ⟨Proofs.Tryz.prog, fun _ => false, sumsOf []⟩
def A89q : Notes := ⟨[], []⟩
theorem B89q : EnvB E89q := env_n mixed_orders trivial
def as89q : List AS := [.agg [.dat false y3q, .dat false (.sl (.int .i64)), .dat false (.int .i64), .dat false (.sl (.int .i64))], .agg [.int .i64, .int .i64, .int .i64, .int .i64, .int .i64, .int .i64, .int .i64]]
def rs89q : RS := .c (.bool)
def pk89q : Bool → RL rs89q.cells := fun x => (x, ())
def up89q : RL rs89q.cells → Bool := fun d => d.1
def s89q (k : Nat) (d : AD as89q) := giroref15_May k d.1 d.2.1 d.2.2.1 d.2.2.2.1 d.2.2.2.2.1 d.2.2.2.2.2.1 d.2.2.2.2.2.2.1 d.2.2.2.2.2.2.2.1 d.2.2.2.2.2.2.2.2.1 d.2.2.2.2.2.2.2.2.2.1 d.2.2.2.2.2.2.2.2.2.2.1
def R89q : Nat × Entry := (109, fun k nm args h => entry as89q rs89q (s89q k) pk89q nm args h)
theorem ev89q (k : Nat) (d : AD as89q) : evF E89q A89q k 1000 0 Proofs.Tryz.f109 (absArgs as89q d).1 (absArgs as89q d).2 (outM rs89q up89q) = s89q k d := by
  obtain ⟨_, _, _, _, _, _, _, _, _, _, _, _⟩ := d
  kernel_rfl
theorem F89q : FnOK Proofs.Tryz.prog R89q := fn_b (E := E89q) (A := A89q) (na := 0) (fn := Proofs.Tryz.f109) (S := s89q) (unpack := up89q) B89q (by kernel_rfl) (loopsOK_none (by kernel_rfl)) (by kernel_rfl) (by kernel_rfl) (fun _ => rfl) ev89q

/-! ### giro/giroref15.All -/
noncomputable def E90q : Env := ⟨Proofs.Tryz.prog, fun _ => false, sumsOf [R89q]⟩
def I90_0q : Spec := ⟨[(1, .c (.dat false y7q)), (2, .c (.lit (.ptr 1001000 0))), (5, .c (.int .i64))], [.box true [.dat false y3q, .dat false (.sl (.int .i64)), .dat false (.int .i64), .dat false (.sl (.int .i64))]], []⟩
def X0_90_0q : Spec := ⟨[(1, .c (.dat false y7q))], [], []⟩
def X1_90_0q : Spec := ⟨[(4, .c (.bool))], [], []⟩
def O90_0q : List (Ex × Spec) := [(.exit 0, X0_90_0q), (.ret, X1_90_0q)]
def c90_0q (f : giroref15_All_L0T) (d : I90_0q.den) : Option giroref15_All_L0X := f d.1.1.1 d.1.2.2.1.1 d.2.1.1 d.2.1.2.1 d.2.1.2.2.1 d.2.1.2.2.2.1
def T90_0q : OutD O90_0q → giroref15_All_L0X
 | .inl d => .inl d.1.1.1
 | .inr d => .inr d.1.1.1
def e90_0q (base : Nat) (x : giroref15_All_L0X) (R : Type) (K : Ex → St → Option R) : Option R := match x with
 | .inl x => K (.exit 0) (stOf base X0_90_0q (((x, ()), ()), ()))
 | .inr x => K .ret (stOf base X1_90_0q (((x, ()), ()), ()))
def L90_0q : LoopSum := ⟨I90_0q, O90_0q, giroref15_All_L0X, fun k d => c90_0q (giroref15_All_L0 k k) d, e90_0q⟩
def A90q : Notes := ⟨[], [(2, L90_0q)]⟩
theorem B90q : EnvB E90q := env_n mixed_orders ⟨F89q, trivial⟩
theorem st90_0q (k : Nat) (rec : giroref15_All_L0T) (d : I90_0q.den) : c90_0q (giroref15_All_L0b k rec) d = evC E90q A90q k 1000 0 22 (loopAt (bodyOf Proofs.Tryz.f83) 0) (stOf (1000 + loopBase) I90_0q d) (roundK 1000 I90_0q O90_0q T90_0q (c90_0q rec)) := by
  obtain ⟨⟨⟨_, _⟩, _, ⟨_, _⟩, _⟩, ⟨⟨_, _, _, _, _⟩, _⟩⟩ := d
  kernel_rfl
theorem lk90_0q : LoopOK Proofs.Tryz.prog 1000 0 22 (loopAt (bodyOf Proofs.Tryz.f83) 0) L90_0q :=
  loop_b (A := A90q) (inS := I90_0q) (outs := O90_0q) B90q (loopsOK_none (by kernel_rfl)) T90_0q e90_0q (by intro o R K; rcases o with o | o <;> rfl) (fun k n d => c90_0q (giroref15_All_L0 k n) d) (fun _ _ => rfl) (fun k n d => st90_0q k (giroref15_All_L0 k n) d)
def as90q : List AS := [.agg [.dat false y3q, .dat false (.sl (.int .i64)), .dat false (.int .i64), .dat false (.sl (.int .i64))], .c (.dat false y7q)]
def rs90q : RS := .c (.bool)
def pk90q : Bool → RL rs90q.cells := fun x => (x, ())
def up90q : RL rs90q.cells → Bool := fun d => d.1
def s90q (k : Nat) (d : AD as90q) := giroref15_All k d.1 d.2.1 d.2.2.1 d.2.2.2.1 d.2.2.2.2.1
def R90q : Nat × Entry := (83, fun k nm args h => entry as90q rs90q (s90q k) pk90q nm args h)
theorem ev90q (k : Nat) (d : AD as90q) : evF E90q A90q k 1000 0 Proofs.Tryz.f83 (absArgs as90q d).1 (absArgs as90q d).2 (outM rs90q up90q) = s90q k d := by
  obtain ⟨_, _, _, _, _, _⟩ := d
  kernel_rfl
theorem F90q : FnOK Proofs.Tryz.prog R90q := fn_b (E := E90q) (A := A90q) (na := 0) (fn := Proofs.Tryz.f83) (S := s90q) (unpack := up90q) B90q (by kernel_rfl) (loopsOK_of (n := 1) (by kernel_rfl) fun i hi => match i, hi with | 0, _ => ⟨L90_0q, by kernel_rfl, lk90_0q⟩ | i + 1, hi => absurd hi (by omega)) (by kernel_rfl) (by kernel_rfl) (fun _ => rfl) ev90q

/-! ### giro/giroref10.rows -/
noncomputable def E91q : Env := ⟨Proofs.Tryz.prog, fun _ => false, sumsOf []⟩
def I91_0q : Spec := ⟨[(0, .c (.dat false (.sl (.int .i64)))), (3, .c (.lit (.osl 1001000 none))), (4, .c (.int .i64))], [.mat], [(3, none, (.sl (.int .i64)), true)]⟩
def X0_91_0q : Spec := ⟨[(3, .c (.lit (.osl 1001000 none)))], [.mat], []⟩
def O91_0q : List (Ex × Spec) := [(.exit 0, X0_91_0q)]
def c91_0q (f : giroref10_rows_L0T) (d : I91_0q.den) : Option (List (List Int)) := f d.1.1.1 d.1.2.2.1.1 d.2.1
def T91_0q : OutD O91_0q → (List (List Int)) := fun d => d.2.1
def e91_0q (base : Nat) (x : (List (List Int))) (R : Type) (K : Ex → St → Option R) : Option R := K (.exit 0) (stOf base X0_91_0q (((), ()), (x, ())))
def L91_0q : LoopSum := ⟨I91_0q, O91_0q, (List (List Int)), fun k d => c91_0q (giroref10_rows_L0 k k) d, e91_0q⟩
def A91q : Notes := ⟨[18, 19], [(3, L91_0q)]⟩
theorem B91q : EnvB E91q := env_n mixed_orders trivial
theorem st91_0q (k : Nat) (rec : giroref10_rows_L0T) (d : I91_0q.den) : c91_0q (giroref10_rows_L0b k rec) d = evC E91q A91q k 1000 0 21 (loopAt (bodyOf Proofs.Tryz.f110) 0) (stOf (1000 + loopBase) I91_0q d) (roundK 1000 I91_0q O91_0q T91_0q (c91_0q rec)) := by
  obtain ⟨⟨⟨_, _⟩, _, ⟨_, _⟩, _⟩, ⟨_, _⟩⟩ := d
  kernel_rfl
theorem lk91_0q : LoopOK Proofs.Tryz.prog 1000 0 21 (loopAt (bodyOf Proofs.Tryz.f110) 0) L91_0q :=
  loop_b (A := A91q) (inS := I91_0q) (outs := O91_0q) B91q (loopsOK_none (by kernel_rfl)) T91_0q e91_0q (fun _ _ _ => rfl) (fun k n d => c91_0q (giroref10_rows_L0 k n) d) (fun _ _ => rfl) (fun k n d => st91_0q k (giroref10_rows_L0 k n) d)
def as91q : List AS := [.c (.dat false (.sl (.int .i64)))]
def rs91q : RS := .c (.mat)
def pk91q : List (List Int) → RL rs91q.cells := fun x => (x, ())
def up91q : RL rs91q.cells → List (List Int) := fun d => d.1
def s91q (k : Nat) (d : AD as91q) := giroref10_rows k d.1
def R91q : Nat × Entry := (110, fun k nm args h => entry as91q rs91q (s91q k) pk91q nm args h)
theorem ev91q (k : Nat) (d : AD as91q) : evF E91q A91q k 1000 0 Proofs.Tryz.f110 (absArgs as91q d).1 (absArgs as91q d).2 (outM rs91q up91q) = s91q k d := by
  obtain ⟨_, _⟩ := d
  kernel_rfl
theorem F91q : FnOK Proofs.Tryz.prog R91q := fn_b (E := E91q) (A := A91q) (na := 0) (fn := Proofs.Tryz.f110) (S := s91q) (unpack := up91q) B91q (by kernel_rfl) (loopsOK_of (n := 1) (by kernel_rfl) fun i hi => match i, hi with | 0, _ => ⟨L91_0q, by kernel_rfl, lk91_0q⟩ | i + 1, hi => absurd hi (by omega)) (by kernel_rfl) (by kernel_rfl) (fun _ => rfl) ev91q

/-! ### giro/giroref10.Copy -/
noncomputable def E92q : Env := ⟨Proofs.Tryz.prog, fun _ => false, sumsOf [R91q]⟩
def A92q : Notes := ⟨[], []⟩
theorem B92q : EnvB E92q := env_n mixed_orders ⟨F91q, trivial⟩
def as92q : List AS := [.agg [.dat false y3q, .dat false (.sl (.int .i64)), .dat false (.int .i64), .dat false (.sl (.int .i64))]]
def rs92q : RS := .agg [.own y3q, .mat, .own (.int .i64), .mat]
def pk92q : (List K2q) × (List (List Int)) × (List Int) × (List (List Int)) → RL rs92q.cells := fun x => (x.1, x.2.1, x.2.2.1, x.2.2.2, ())
def up92q : RL rs92q.cells → (List K2q) × (List (List Int)) × (List Int) × (List (List Int)) := fun d => (d.1, d.2.1, d.2.2.1, d.2.2.2.1)
def s92q (k : Nat) (d : AD as92q) := giroref10_Copy k d.1 d.2.1 d.2.2.1 d.2.2.2.1
def R92q : Nat × Entry := (84, fun k nm args h => entry as92q rs92q (s92q k) pk92q nm args h)
theorem ev92q (k : Nat) (d : AD as92q) : evF E92q A92q k 1000 0 Proofs.Tryz.f84 (absArgs as92q d).1 (absArgs as92q d).2 (outM rs92q up92q) = s92q k d := by
  obtain ⟨_, _, _, _, _⟩ := d
  kernel_rfl
theorem F92q : FnOK Proofs.Tryz.prog R92q := fn_b (E := E92q) (A := A92q) (na := 0) (fn := Proofs.Tryz.f84) (S := s92q) (unpack := up92q) B92q (by kernel_rfl) (loopsOK_none (by kernel_rfl)) (by kernel_rfl) (by kernel_rfl) (fun _ => rfl) ev92q

/-! ### giro/giroref15.classed -/
noncomputable def E93q : Env := ⟨Proofs.Tryz.prog, fun _ => false, sumsOf []⟩
def I93_0q : Spec := ⟨[(0, .c (.dat false y7q)), (1, .c (.int .i64)), (6, .c (.int .i64)), (7, .c (.int .i64)), (8, .c (.int .i64))], [], []⟩
def X0_93_0q : Spec := ⟨[(6, .c (.int .i64)), (7, .c (.int .i64))], [], []⟩
def O93_0q : List (Ex × Spec) := [(.exit 0, X0_93_0q)]
def c93_0q (f : giroref15_classed_L0T) (d : I93_0q.den) : Option (Int × Int) := f d.1.1.1 d.1.2.1.1 d.1.2.2.1.1 d.1.2.2.2.1.1 d.1.2.2.2.2.1.1
def T93_0q : OutD O93_0q → (Int × Int) := fun d => (d.1.1.1, d.1.2.1.1)
def e93_0q (base : Nat) (x : (Int × Int)) (R : Type) (K : Ex → St → Option R) : Option R := K (.exit 0) (stOf base X0_93_0q (((x.1, ()), (x.2, ()), ()), ()))
def L93_0q : LoopSum := ⟨I93_0q, O93_0q, (Int × Int), fun k d => c93_0q (giroref15_classed_L0 k k) d, e93_0q⟩
def A93q : Notes := ⟨[], [(3, L93_0q)]⟩
theorem B93q : EnvB E93q := env_n mixed_orders trivial
theorem st93_0q (k : Nat) (rec : giroref15_classed_L0T) (d : I93_0q.den) : c93_0q (giroref15_classed_L0b k rec) d = evC E93q A93q k 1000 0 46 (loopAt (bodyOf Proofs.Tryz.f111) 0) (stOf (1000 + loopBase) I93_0q d) (roundK 1000 I93_0q O93_0q T93_0q (c93_0q rec)) := by
  obtain ⟨⟨⟨_, _⟩, ⟨_, _⟩, ⟨_, _⟩, ⟨_, _⟩, ⟨_, _⟩, _⟩, _⟩ := d
  kernel_rfl
theorem lk93_0q : LoopOK Proofs.Tryz.prog 1000 0 46 (loopAt (bodyOf Proofs.Tryz.f111) 0) L93_0q :=
  loop_b (A := A93q) (inS := I93_0q) (outs := O93_0q) B93q (loopsOK_none (by kernel_rfl)) T93_0q e93_0q (fun _ _ _ => rfl) (fun k n d => c93_0q (giroref15_classed_L0 k n) d) (fun _ _ => rfl) (fun k n d => st93_0q k (giroref15_classed_L0 k n) d)
def as93q : List AS := [.c (.dat false y7q), .c (.int .i64)]
def rs93q : RS := .tup [(false, [.int .i64]), (false, [.int .i64])]
def pk93q : Int × Int → RL rs93q.cells := fun x => (x.1, x.2, ())
def up93q : RL rs93q.cells → Int × Int := fun d => (d.1, d.2.1)
def s93q (k : Nat) (d : AD as93q) := giroref15_classed k d.1 d.2.1
def R93q : Nat × Entry := (111, fun k nm args h => entry as93q rs93q (s93q k) pk93q nm args h)
theorem ev93q (k : Nat) (d : AD as93q) : evF E93q A93q k 1000 0 Proofs.Tryz.f111 (absArgs as93q d).1 (absArgs as93q d).2 (outM rs93q up93q) = s93q k d := by
  obtain ⟨_, _, _⟩ := d
  kernel_rfl
theorem F93q : FnOK Proofs.Tryz.prog R93q := fn_b (E := E93q) (A := A93q) (na := 0) (fn := Proofs.Tryz.f111) (S := s93q) (unpack := up93q) B93q (by kernel_rfl) (loopsOK_of (n := 1) (by kernel_rfl) fun i hi => match i, hi with | 0, _ => ⟨L93_0q, by kernel_rfl, lk93_0q⟩ | i + 1, hi => absurd hi (by omega)) (by kernel_rfl) (by kernel_rfl) (fun _ => rfl) ev93q

/-! ### giro/giroref15.Spent -/
noncomputable def E94q : Env := ⟨Proofs.Tryz.prog, fun _ => false, sumsOf [R93q]⟩
def A94q : Notes := ⟨[], []⟩
theorem B94q : EnvB E94q := env_n mixed_orders ⟨F93q, trivial⟩
def as94q : List AS := [.c (.dat false y7q), .c (.int .i64)]
def rs94q : RS := .c (.int .i64)
def pk94q : Int → RL rs94q.cells := fun x => (x, ())
def up94q : RL rs94q.cells → Int := fun d => d.1
def s94q (k : Nat) (d : AD as94q) := giroref15_Spent k d.1 d.2.1
def R94q : Nat × Entry := (86, fun k nm args h => entry as94q rs94q (s94q k) pk94q nm args h)
theorem ev94q (k : Nat) (d : AD as94q) : evF E94q A94q k 1000 0 Proofs.Tryz.f86 (absArgs as94q d).1 (absArgs as94q d).2 (outM rs94q up94q) = s94q k d := by
  obtain ⟨_, _, _⟩ := d
  kernel_rfl
theorem F94q : FnOK Proofs.Tryz.prog R94q := fn_b (E := E94q) (A := A94q) (na := 0) (fn := Proofs.Tryz.f86) (S := s94q) (unpack := up94q) B94q (by kernel_rfl) (loopsOK_none (by kernel_rfl)) (by kernel_rfl) (by kernel_rfl) (fun _ => rfl) ev94q

/-! ### giro/giroref9.Kept -/
noncomputable def E95q : Env := ⟨Proofs.Tryz.prog, fun _ => false, sumsOf []⟩
def A95q : Notes := ⟨[], []⟩
theorem B95q : EnvB E95q := env_n mixed_orders trivial
def as95q : List AS := [.agg [.int .i64, .int .i64, .int .i64], .c (.int .i64)]
def rs95q : RS := .c (.int .i64)
def pk95q : Int → RL rs95q.cells := fun x => (x, ())
def up95q : RL rs95q.cells → Int := fun d => d.1
def s95q (k : Nat) (d : AD as95q) := giroref9_Kept k d.1 d.2.1 d.2.2.1 d.2.2.2.1
def R95q : Nat × Entry := (85, fun k nm args h => entry as95q rs95q (s95q k) pk95q nm args h)
theorem ev95q (k : Nat) (d : AD as95q) : evF E95q A95q k 1000 0 Proofs.Tryz.f85 (absArgs as95q d).1 (absArgs as95q d).2 (outM rs95q up95q) = s95q k d := by
  obtain ⟨_, _, _, _, _⟩ := d
  kernel_rfl
theorem F95q : FnOK Proofs.Tryz.prog R95q := fn_b (E := E95q) (A := A95q) (na := 0) (fn := Proofs.Tryz.f85) (S := s95q) (unpack := up95q) B95q (by kernel_rfl) (loopsOK_none (by kernel_rfl)) (by kernel_rfl) (by kernel_rfl) (fun _ => rfl) ev95q

/-! ### giro/giroref15.sent -/
noncomputable def E96q : Env := ⟨Proofs.Tryz.prog, fun _ => false, sumsOf []⟩
def I96_0q : Spec := ⟨[(0, .c (.dat false y7q)), (1, .c (.int .i64)), (2, .c (.int .i64)), (7, .c (.int .i64)), (8, .c (.int .i64))], [], []⟩
def X0_96_0q : Spec := ⟨[(7, .c (.int .i64))], [], []⟩
def O96_0q : List (Ex × Spec) := [(.exit 0, X0_96_0q)]
def c96_0q (f : giroref15_sent_L0T) (d : I96_0q.den) : Option Int := f d.1.1.1 d.1.2.1.1 d.1.2.2.1.1 d.1.2.2.2.1.1 d.1.2.2.2.2.1.1
def T96_0q : OutD O96_0q → Int := fun d => d.1.1.1
def e96_0q (base : Nat) (x : Int) (R : Type) (K : Ex → St → Option R) : Option R := K (.exit 0) (stOf base X0_96_0q (((x, ()), ()), ()))
def L96_0q : LoopSum := ⟨I96_0q, O96_0q, Int, fun k d => c96_0q (giroref15_sent_L0 k k) d, e96_0q⟩
def A96q : Notes := ⟨[], [(3, L96_0q)]⟩
theorem B96q : EnvB E96q := env_n mixed_orders trivial
theorem st96_0q (k : Nat) (rec : giroref15_sent_L0T) (d : I96_0q.den) : c96_0q (giroref15_sent_L0b k rec) d = evC E96q A96q k 1000 0 39 (loopAt (bodyOf Proofs.Tryz.f112) 0) (stOf (1000 + loopBase) I96_0q d) (roundK 1000 I96_0q O96_0q T96_0q (c96_0q rec)) := by
  obtain ⟨⟨⟨_, _⟩, ⟨_, _⟩, ⟨_, _⟩, ⟨_, _⟩, ⟨_, _⟩, _⟩, _⟩ := d
  kernel_rfl
theorem lk96_0q : LoopOK Proofs.Tryz.prog 1000 0 39 (loopAt (bodyOf Proofs.Tryz.f112) 0) L96_0q :=
  loop_b (A := A96q) (inS := I96_0q) (outs := O96_0q) B96q (loopsOK_none (by kernel_rfl)) T96_0q e96_0q (fun _ _ _ => rfl) (fun k n d => c96_0q (giroref15_sent_L0 k n) d) (fun _ _ => rfl) (fun k n d => st96_0q k (giroref15_sent_L0 k n) d)
def as96q : List AS := [.c (.dat false y7q), .c (.int .i64), .c (.int .i64)]
def rs96q : RS := .c (.int .i64)
def pk96q : Int → RL rs96q.cells := fun x => (x, ())
def up96q : RL rs96q.cells → Int := fun d => d.1
def s96q (k : Nat) (d : AD as96q) := giroref15_sent k d.1 d.2.1 d.2.2.1
def R96q : Nat × Entry := (112, fun k nm args h => entry as96q rs96q (s96q k) pk96q nm args h)
theorem ev96q (k : Nat) (d : AD as96q) : evF E96q A96q k 1000 0 Proofs.Tryz.f112 (absArgs as96q d).1 (absArgs as96q d).2 (outM rs96q up96q) = s96q k d := by
  obtain ⟨_, _, _, _⟩ := d
  kernel_rfl
theorem F96q : FnOK Proofs.Tryz.prog R96q := fn_b (E := E96q) (A := A96q) (na := 0) (fn := Proofs.Tryz.f112) (S := s96q) (unpack := up96q) B96q (by kernel_rfl) (loopsOK_of (n := 1) (by kernel_rfl) fun i hi => match i, hi with | 0, _ => ⟨L96_0q, by kernel_rfl, lk96_0q⟩ | i + 1, hi => absurd hi (by omega)) (by kernel_rfl) (by kernel_rfl) (fun _ => rfl) ev96q

/-! ### giro/giroref15.Sent -/
noncomputable def E97q : Env := ⟨Proofs.Tryz.prog, fun _ => false, sumsOf [R96q]⟩
def A97q : Notes := ⟨[], []⟩
theorem B97q : EnvB E97q := env_n mixed_orders ⟨F96q, trivial⟩
def as97q : List AS := [.c (.dat false y7q), .c (.int .i64), .c (.int .i64)]
def rs97q : RS := .c (.int .i64)
def pk97q : Int → RL rs97q.cells := fun x => (x, ())
def up97q : RL rs97q.cells → Int := fun d => d.1
def s97q (k : Nat) (d : AD as97q) := giroref15_Sent k d.1 d.2.1 d.2.2.1
def R97q : Nat × Entry := (87, fun k nm args h => entry as97q rs97q (s97q k) pk97q nm args h)
theorem ev97q (k : Nat) (d : AD as97q) : evF E97q A97q k 1000 0 Proofs.Tryz.f87 (absArgs as97q d).1 (absArgs as97q d).2 (outM rs97q up97q) = s97q k d := by
  obtain ⟨_, _, _, _⟩ := d
  kernel_rfl
theorem F97q : FnOK Proofs.Tryz.prog R97q := fn_b (E := E97q) (A := A97q) (na := 0) (fn := Proofs.Tryz.f87) (S := s97q) (unpack := up97q) B97q (by kernel_rfl) (loopsOK_none (by kernel_rfl)) (by kernel_rfl) (by kernel_rfl) (fun _ => rfl) ev97q

/-! ### giro/giroref10.square -/
noncomputable def E98q : Env := ⟨Proofs.Tryz.prog, fun _ => false, sumsOf []⟩
def I98_0q : Spec := ⟨[(0, .c (.dat false (.sl (.int .i64)))), (1, .c (.int .i64)), (5, .c (.int .i64))], [], []⟩
def X0_98_0q : Spec := ⟨[], [], []⟩
def X1_98_0q : Spec := ⟨[(4, .c (.bool))], [], []⟩
def O98_0q : List (Ex × Spec) := [(.exit 0, X0_98_0q), (.ret, X1_98_0q)]
def c98_0q (f : giroref10_square_L0T) (d : I98_0q.den) : Option (Unit ⊕ Bool) := f d.1.1.1 d.1.2.1.1 d.1.2.2.1.1
def T98_0q : OutD O98_0q → (Unit ⊕ Bool)
 | .inl d => .inl ()
 | .inr d => .inr d.1.1.1
def e98_0q (base : Nat) (x : (Unit ⊕ Bool)) (R : Type) (K : Ex → St → Option R) : Option R := match x with
 | .inl x => K (.exit 0) (stOf base X0_98_0q ((), ()))
 | .inr x => K .ret (stOf base X1_98_0q (((x, ()), ()), ()))
def L98_0q : LoopSum := ⟨I98_0q, O98_0q, (Unit ⊕ Bool), fun k d => c98_0q (giroref10_square_L0 k k) d, e98_0q⟩
def A98q : Notes := ⟨[], [(4, L98_0q)]⟩
theorem B98q : EnvB E98q := env_n mixed_orders trivial
theorem st98_0q (k : Nat) (rec : giroref10_square_L0T) (d : I98_0q.den) : c98_0q (giroref10_square_L0b k rec) d = evC E98q A98q k 1000 0 22 (loopAt (bodyOf Proofs.Tryz.f113) 0) (stOf (1000 + loopBase) I98_0q d) (roundK 1000 I98_0q O98_0q T98_0q (c98_0q rec)) := by
  obtain ⟨⟨⟨_, _⟩, ⟨_, _⟩, ⟨_, _⟩, _⟩, _⟩ := d
  kernel_rfl
theorem lk98_0q : LoopOK Proofs.Tryz.prog 1000 0 22 (loopAt (bodyOf Proofs.Tryz.f113) 0) L98_0q :=
  loop_b (A := A98q) (inS := I98_0q) (outs := O98_0q) B98q (loopsOK_none (by kernel_rfl)) T98_0q e98_0q (by intro o R K; rcases o with o | o <;> rfl) (fun k n d => c98_0q (giroref10_square_L0 k n) d) (fun _ _ => rfl) (fun k n d => st98_0q k (giroref10_square_L0 k n) d)
def as98q : List AS := [.c (.dat false (.sl (.int .i64))), .c (.int .i64)]
def rs98q : RS := .c (.bool)
def pk98q : Bool → RL rs98q.cells := fun x => (x, ())
def up98q : RL rs98q.cells → Bool := fun d => d.1
def s98q (k : Nat) (d : AD as98q) := giroref10_square k d.1 d.2.1
def R98q : Nat × Entry := (113, fun k nm args h => entry as98q rs98q (s98q k) pk98q nm args h)
theorem ev98q (k : Nat) (d : AD as98q) : evF E98q A98q k 1000 0 Proofs.Tryz.f113 (absArgs as98q d).1 (absArgs as98q d).2 (outM rs98q up98q) = s98q k d := by
  obtain ⟨_, _, _⟩ := d
  kernel_rfl
theorem F98q : FnOK Proofs.Tryz.prog R98q := fn_b (E := E98q) (A := A98q) (na := 0) (fn := Proofs.Tryz.f113) (S := s98q) (unpack := up98q) B98q (by kernel_rfl) (loopsOK_of (n := 1) (by kernel_rfl) fun i hi => match i, hi with | 0, _ => ⟨L98_0q, by kernel_rfl, lk98_0q⟩ | i + 1, hi => absurd hi (by omega)) (by kernel_rfl) (by kernel_rfl) (fun _ => rfl) ev98q

/-! ### giro/giroref9.Is -/
noncomputable def E99q : Env := ⟨Proofs.Tryz.prog, fun _ => false, sumsOf []⟩
def A99q : Notes := ⟨[], []⟩
theorem B99q : EnvB E99q := env_n mixed_orders trivial
def as99q : List AS := [.agg [.int .i64, .int .i64, .int .i64]]
def rs99q : RS := .c (.bool)
def pk99q : Bool → RL rs99q.cells := fun x => (x, ())
def up99q : RL rs99q.cells → Bool := fun d => d.1
def s99q (k : Nat) (d : AD as99q) := giroref9_Is k d.1 d.2.1 d.2.2.1
def R99q : Nat × Entry := (114, fun k nm args h => entry as99q rs99q (s99q k) pk99q nm args h)
theorem ev99q (k : Nat) (d : AD as99q) : evF E99q A99q k 1000 0 Proofs.Tryz.f114 (absArgs as99q d).1 (absArgs as99q d).2 (outM rs99q up99q) = s99q k d := by
  obtain ⟨_, _, _, _⟩ := d
  kernel_rfl
theorem F99q : FnOK Proofs.Tryz.prog R99q := fn_b (E := E99q) (A := A99q) (na := 0) (fn := Proofs.Tryz.f114) (S := s99q) (unpack := up99q) B99q (by kernel_rfl) (loopsOK_none (by kernel_rfl)) (by kernel_rfl) (by kernel_rfl) (fun _ => rfl) ev99q

/-! ### giro/giroref10.limit -/
noncomputable def E100q : Env := ⟨Proofs.Tryz.prog, fun _ => false, sumsOf []⟩
def A100q : Notes := ⟨[], []⟩
theorem B100q : EnvB E100q := env_n mixed_orders trivial
def as100q : List AS := [.c (.int .i64)]
def rs100q : RS := .c (.bool)
def pk100q : Bool → RL rs100q.cells := fun x => (x, ())
def up100q : RL rs100q.cells → Bool := fun d => d.1
def s100q (k : Nat) (d : AD as100q) := giroref10_limit k d.1
def R100q : Nat × Entry := (115, fun k nm args h => entry as100q rs100q (s100q k) pk100q nm args h)
theorem ev100q (k : Nat) (d : AD as100q) : evF E100q A100q k 1000 0 Proofs.Tryz.f115 (absArgs as100q d).1 (absArgs as100q d).2 (outM rs100q up100q) = s100q k d := by
  obtain ⟨_, _⟩ := d
  kernel_rfl
theorem F100q : FnOK Proofs.Tryz.prog R100q := fn_b (E := E100q) (A := A100q) (na := 0) (fn := Proofs.Tryz.f115) (S := s100q) (unpack := up100q) B100q (by kernel_rfl) (loopsOK_none (by kernel_rfl)) (by kernel_rfl) (by kernel_rfl) (fun _ => rfl) ev100q

/-! ### giro/giroref10.Is -/
noncomputable def E101q : Env := ⟨Proofs.Tryz.prog, fun _ => false, sumsOf [R98q, R99q, R100q]⟩
def I101_0q : Spec := ⟨[(1, .c (.lit (.ptr 1001000 0))), (3, .c (.int .i64)), (4, .c (.int .i64)), (5, .c (.int .i64))], [.box true [.dat false y3q, .dat false (.sl (.int .i64)), .dat false (.int .i64), .dat false (.sl (.int .i64))]], []⟩
def X0_101_0q : Spec := ⟨[(1, .c (.lit (.ptr 1001000 0))), (3, .c (.int .i64)), (4, .c (.int .i64))], [.box true [.dat false y3q, .dat false (.sl (.int .i64)), .dat false (.int .i64), .dat false (.sl (.int .i64))]], []⟩
def X1_101_0q : Spec := ⟨[(2, .c (.bool))], [], []⟩
def O101_0q : List (Ex × Spec) := [(.exit 2, X0_101_0q), (.ret, X1_101_0q)]
def c101_0q (f : giroref10_Is_L1T) (d : I101_0q.den) : Option giroref10_Is_L1X := f d.1.2.1.1 d.1.2.2.1.1 d.1.2.2.2.1.1 d.2.1.1 d.2.1.2.1 d.2.1.2.2.1 d.2.1.2.2.2.1
def T101_0q : OutD O101_0q → giroref10_Is_L1X
 | .inl d => .inl (d.1.2.1.1, d.1.2.2.1.1, d.2.1.1, d.2.1.2.1, d.2.1.2.2.1, d.2.1.2.2.2.1)
 | .inr d => .inr d.1.1.1
def e101_0q (base : Nat) (x : giroref10_Is_L1X) (R : Type) (K : Ex → St → Option R) : Option R := match x with
 | .inl x => K (.exit 2) (stOf base X0_101_0q (((), (x.1, ()), (x.2.1, ()), ()), ((x.2.2.1, x.2.2.2.1, x.2.2.2.2.1, x.2.2.2.2.2, ()), ())))
 | .inr x => K .ret (stOf base X1_101_0q (((x, ()), ()), ()))
def L101_0q : LoopSum := ⟨I101_0q, O101_0q, giroref10_Is_L1X, fun k d => c101_0q (giroref10_Is_L1 k k) d, e101_0q⟩
def I101_1q : Spec := ⟨[(1, .c (.lit (.ptr 1001000 0))), (3, .c (.int .i64)), (4, .c (.int .i64))], [.box true [.dat false y3q, .dat false (.sl (.int .i64)), .dat false (.int .i64), .dat false (.sl (.int .i64))]], []⟩
def X0_101_1q : Spec := ⟨[], [], []⟩
def X1_101_1q : Spec := ⟨[(2, .c (.bool))], [], []⟩
def O101_1q : List (Ex × Spec) := [(.exit 0, X0_101_1q), (.ret, X1_101_1q)]
def c101_1q (f : giroref10_Is_L0T) (d : I101_1q.den) : Option (Unit ⊕ Bool) := f d.1.2.1.1 d.1.2.2.1.1 d.2.1.1 d.2.1.2.1 d.2.1.2.2.1 d.2.1.2.2.2.1
def T101_1q : OutD O101_1q → (Unit ⊕ Bool)
 | .inl d => .inl ()
 | .inr d => .inr d.1.1.1
def e101_1q (base : Nat) (x : (Unit ⊕ Bool)) (R : Type) (K : Ex → St → Option R) : Option R := match x with
 | .inl x => K (.exit 0) (stOf base X0_101_1q ((), ()))
 | .inr x => K .ret (stOf base X1_101_1q (((x, ()), ()), ()))
def L101_1q : LoopSum := ⟨I101_1q, O101_1q, (Unit ⊕ Bool), fun k d => c101_1q (giroref10_Is_L0 k k) d, e101_1q⟩
def A101q : Notes := ⟨[], [(10, L101_0q), (5, L101_1q)]⟩
theorem B101q : EnvB E101q := env_n mixed_orders ⟨F98q, F99q, F100q, trivial⟩
theorem st101_0q (k : Nat) (rec : giroref10_Is_L1T) (d : I101_0q.den) : c101_0q (giroref10_Is_L1b k rec) d = evC E101q A101q k 1000 0 114 (loopAt (loopAt (bodyOf Proofs.Tryz.f88) 0) 0) (stOf (1000 + loopBase) I101_0q d) (roundK 1000 I101_0q O101_0q T101_0q (c101_0q rec)) := by
  obtain ⟨⟨_, ⟨_, _⟩, ⟨_, _⟩, ⟨_, _⟩, _⟩, ⟨⟨_, _, _, _, _⟩, _⟩⟩ := d
  kernel_rfl
theorem lk101_0q : LoopOK Proofs.Tryz.prog 1000 0 114 (loopAt (loopAt (bodyOf Proofs.Tryz.f88) 0) 0) L101_0q :=
  loop_b (A := A101q) (inS := I101_0q) (outs := O101_0q) B101q (loopsOK_none (by kernel_rfl)) T101_0q e101_0q (by intro o R K; rcases o with o | o <;> rfl) (fun k n d => c101_0q (giroref10_Is_L1 k n) d) (fun _ _ => rfl) (fun k n d => st101_0q k (giroref10_Is_L1 k n) d)
theorem st101_1q (k : Nat) (rec : giroref10_Is_L0T) (d : I101_1q.den) : c101_1q (giroref10_Is_L0b k rec) d = evC E101q A101q k 1000 0 114 (loopAt (bodyOf Proofs.Tryz.f88) 0) (stOf (1000 + loopBase) I101_1q d) (roundK 1000 I101_1q O101_1q T101_1q (c101_1q rec)) := by
  obtain ⟨⟨_, ⟨_, _⟩, ⟨_, _⟩, _⟩, ⟨⟨_, _, _, _, _⟩, _⟩⟩ := d
  kernel_rfl
theorem lk101_1q : LoopOK Proofs.Tryz.prog 1000 0 114 (loopAt (bodyOf Proofs.Tryz.f88) 0) L101_1q :=
  loop_b (A := A101q) (inS := I101_1q) (outs := O101_1q) B101q (loopsOK_of (n := 1) (by kernel_rfl) fun i hi => match i, hi with | 0, _ => ⟨L101_0q, by kernel_rfl, lk101_0q⟩ | i + 1, hi => absurd hi (by omega)) T101_1q e101_1q (by intro o R K; rcases o with o | o <;> rfl) (fun k n d => c101_1q (giroref10_Is_L0 k n) d) (fun _ _ => rfl) (fun k n d => st101_1q k (giroref10_Is_L0 k n) d)
def as101q : List AS := [.agg [.dat false y3q, .dat false (.sl (.int .i64)), .dat false (.int .i64), .dat false (.sl (.int .i64))]]
def rs101q : RS := .c (.bool)
def pk101q : Bool → RL rs101q.cells := fun x => (x, ())
def up101q : RL rs101q.cells → Bool := fun d => d.1
def s101q (k : Nat) (d : AD as101q) := giroref10_Is k d.1 d.2.1 d.2.2.1 d.2.2.2.1
def R101q : Nat × Entry := (88, fun k nm args h => entry as101q rs101q (s101q k) pk101q nm args h)
theorem ev101q (k : Nat) (d : AD as101q) : evF E101q A101q k 1000 0 Proofs.Tryz.f88 (absArgs as101q d).1 (absArgs as101q d).2 (outM rs101q up101q) = s101q k d := by
  obtain ⟨_, _, _, _, _⟩ := d
  kernel_rfl
theorem F101q : FnOK Proofs.Tryz.prog R101q := fn_b (E := E101q) (A := A101q) (na := 0) (fn := Proofs.Tryz.f88) (S := s101q) (unpack := up101q) B101q (by kernel_rfl) (loopsOK_of (n := 1) (by kernel_rfl) fun i hi => match i, hi with | 0, _ => ⟨L101_1q, by kernel_rfl, lk101_1q⟩ | i + 1, hi => absurd hi (by omega)) (by kernel_rfl) (by kernel_rfl) (fun _ => rfl) ev101q

/-! ### giro/giroref16.Post -/
noncomputable def E102q : Env := ⟨Proofs.Tryz.prog, fun _ => false, sumsOf [R90q, R92q, R94q, R95q, R97q, R101q]⟩
def I102_0q : Spec := ⟨[(1, .c (.dat false y7q)), (2, .c (.lit (.ptr 1001000 0))), (4, .c (.lit (.ptr 1001001 0))), (6, .c (.lit (.ptr 1001002 0))), (7, .c (.int .i64)), (8, .c (.int .i64))], [.box true [.dat true y3q, .dat true (.sl (.int .i64)), .dat true (.int .i64), .dat true (.sl (.int .i64))], .box true [.lit .nsl, .lit .nsl, .lit .nsl, .lit .nsl], .box true [.lit (.osl 1001003 none), .lit (.osl 1001004 none), .lit (.osl 1001005 none), .lit (.osl 1001006 none)], .arr true y3q, .mat, .arr true (.int .i64), .mat], []⟩
def X0_102_0q : Spec := ⟨[(1, .c (.dat false y7q)), (2, .c (.lit (.ptr 1001000 0))), (4, .c (.lit (.ptr 1001001 0))), (6, .c (.lit (.ptr 1001002 0))), (7, .c (.int .i64))], [.box true [.dat true y3q, .dat true (.sl (.int .i64)), .dat true (.int .i64), .dat true (.sl (.int .i64))], .box true [.lit .nsl, .lit .nsl, .lit .nsl, .lit .nsl], .box true [.lit (.osl 1001003 none), .lit (.osl 1001004 none), .lit (.osl 1001005 none), .lit (.osl 1001006 none)], .arr true y3q, .mat, .arr true (.int .i64), .mat], []⟩
def O102_0q : List (Ex × Spec) := [(.exit 2, X0_102_0q)]
def c102_0q (f : giroref16_Post_L1T) (d : I102_0q.den) : Option giroref16_Post_L1X := f d.1.1.1 d.1.2.2.2.2.1.1 d.1.2.2.2.2.2.1.1 d.2.1.1 d.2.1.2.1 d.2.1.2.2.1 d.2.1.2.2.2.1 d.2.2.2.2.1 d.2.2.2.2.2.1 d.2.2.2.2.2.2.1 d.2.2.2.2.2.2.2.1
def T102_0q : OutD O102_0q → giroref16_Post_L1X := fun d => (d.1.1.1, d.1.2.2.2.2.1.1, d.2.1.1, d.2.1.2.1, d.2.1.2.2.1, d.2.1.2.2.2.1, d.2.2.2.2.1, d.2.2.2.2.2.1, d.2.2.2.2.2.2.1, d.2.2.2.2.2.2.2.1)
def e102_0q (base : Nat) (x : giroref16_Post_L1X) (R : Type) (K : Ex → St → Option R) : Option R := K (.exit 2) (stOf base X0_102_0q (((x.1, ()), (), (), (), (x.2.1, ()), ()), ((x.2.2.1, x.2.2.2.1, x.2.2.2.2.1, x.2.2.2.2.2.1, ()), (), (), x.2.2.2.2.2.2.1, x.2.2.2.2.2.2.2.1, x.2.2.2.2.2.2.2.2.1, x.2.2.2.2.2.2.2.2.2, ())))
def L102_0q : LoopSum := ⟨I102_0q, O102_0q, giroref16_Post_L1X, fun k d => c102_0q (giroref16_Post_L1 k k) d, e102_0q⟩
def I102_1q : Spec := ⟨[(1, .c (.dat false y7q)), (2, .c (.lit (.ptr 1001000 0))), (4, .c (.lit (.ptr 1001001 0))), (6, .c (.lit (.ptr 1001002 0))), (7, .c (.int .i64))], [.box true [.dat true y3q, .dat true (.sl (.int .i64)), .dat true (.int .i64), .dat true (.sl (.int .i64))], .box true [.lit .nsl, .lit .nsl, .lit .nsl, .lit .nsl], .box true [.lit (.osl 1001003 none), .lit (.osl 1001004 none), .lit (.osl 1001005 none), .lit (.osl 1001006 none)], .arr true y3q, .mat, .arr true (.int .i64), .mat], []⟩
def X0_102_1q : Spec := ⟨[(2, .c (.lit (.ptr 1001000 0))), (4, .c (.lit (.ptr 1001001 0))), (6, .c (.lit (.ptr 1001002 0)))], [.box true [.dat true y3q, .dat true (.sl (.int .i64)), .dat true (.int .i64), .dat true (.sl (.int .i64))], .box true [.lit .nsl, .lit .nsl, .lit .nsl, .lit .nsl], .box true [.lit (.osl 1001003 none), .lit (.osl 1001004 none), .lit (.osl 1001005 none), .lit (.osl 1001006 none)], .arr true y3q, .mat, .arr true (.int .i64), .mat], []⟩
def O102_1q : List (Ex × Spec) := [(.exit 0, X0_102_1q)]
def c102_1q (f : giroref16_Post_L0T) (d : I102_1q.den) : Option giroref16_Post_L0X := f d.1.1.1 d.1.2.2.2.2.1.1 d.2.1.1 d.2.1.2.1 d.2.1.2.2.1 d.2.1.2.2.2.1 d.2.2.2.2.1 d.2.2.2.2.2.1 d.2.2.2.2.2.2.1 d.2.2.2.2.2.2.2.1
def T102_1q : OutD O102_1q → giroref16_Post_L0X := fun d => (d.2.1.1, d.2.1.2.1, d.2.1.2.2.1, d.2.1.2.2.2.1, d.2.2.2.2.1, d.2.2.2.2.2.1, d.2.2.2.2.2.2.1, d.2.2.2.2.2.2.2.1)
def e102_1q (base : Nat) (x : giroref16_Post_L0X) (R : Type) (K : Ex → St → Option R) : Option R := K (.exit 0) (stOf base X0_102_1q (((), (), (), ()), ((x.1, x.2.1, x.2.2.1, x.2.2.2.1, ()), (), (), x.2.2.2.2.1, x.2.2.2.2.2.1, x.2.2.2.2.2.2.1, x.2.2.2.2.2.2.2, ())))
def L102_1q : LoopSum := ⟨I102_1q, O102_1q, giroref16_Post_L0X, fun k d => c102_1q (giroref16_Post_L0 k k) d, e102_1q⟩
def A102q : Notes := ⟨[], [(9, L102_0q), (5, L102_1q)]⟩
theorem B102q : EnvB E102q := env_n mixed_orders ⟨F90q, F92q, F94q, F95q, F97q, F101q, trivial⟩
theorem st102_0q (k : Nat) (rec : giroref16_Post_L1T) (d : I102_0q.den) : c102_0q (giroref16_Post_L1b k rec) d = evC E102q A102q k 1000 0 84 (loopAt (loopAt (bodyOf Proofs.Tryz.f50) 0) 0) (stOf (1000 + loopBase) I102_0q d) (roundK 1000 I102_0q O102_0q T102_0q (c102_0q rec)) := by
  obtain ⟨⟨⟨_, _⟩, _, _, _, ⟨_, _⟩, ⟨_, _⟩, _⟩, ⟨⟨_, _, _, _, _⟩, _, _, _, _, _, _, _⟩⟩ := d
  kernel_rfl
theorem lk102_0q : LoopOK Proofs.Tryz.prog 1000 0 84 (loopAt (loopAt (bodyOf Proofs.Tryz.f50) 0) 0) L102_0q :=
  loop_b (A := A102q) (inS := I102_0q) (outs := O102_0q) B102q (loopsOK_none (by kernel_rfl)) T102_0q e102_0q (fun _ _ _ => rfl) (fun k n d => c102_0q (giroref16_Post_L1 k n) d) (fun _ _ => rfl) (fun k n d => st102_0q k (giroref16_Post_L1 k n) d)
theorem st102_1q (k : Nat) (rec : giroref16_Post_L0T) (d : I102_1q.den) : c102_1q (giroref16_Post_L0b k rec) d = evC E102q A102q k 1000 0 84 (loopAt (bodyOf Proofs.Tryz.f50) 0) (stOf (1000 + loopBase) I102_1q d) (roundK 1000 I102_1q O102_1q T102_1q (c102_1q rec)) := by
  obtain ⟨⟨⟨_, _⟩, _, _, _, ⟨_, _⟩, _⟩, ⟨⟨_, _, _, _, _⟩, _, _, _, _, _, _, _⟩⟩ := d
  kernel_rfl
theorem lk102_1q : LoopOK Proofs.Tryz.prog 1000 0 84 (loopAt (bodyOf Proofs.Tryz.f50) 0) L102_1q :=
  loop_b (A := A102q) (inS := I102_1q) (outs := O102_1q) B102q (loopsOK_of (n := 1) (by kernel_rfl) fun i hi => match i, hi with | 0, _ => ⟨L102_0q, by kernel_rfl, lk102_0q⟩ | i + 1, hi => absurd hi (by omega)) T102_1q e102_1q (fun _ _ _ => rfl) (fun k n d => c102_1q (giroref16_Post_L0 k n) d) (fun _ _ => rfl) (fun k n d => st102_1q k (giroref16_Post_L0 k n) d)
def as102q : List AS := [.agg [.dat true y3q, .dat true (.sl (.int .i64)), .dat true (.int .i64), .dat true (.sl (.int .i64))], .c (.dat false y7q)]
def rs102q : RS := .tup [(true, [.fro y3q, .fro (.sl (.int .i64)), .fro (.int .i64), .fro (.sl (.int .i64))]), (false, [.int .i64])]
def pk102q : (List K2q) × (List (List Int)) × (List Int) × (List (List Int)) × Int → RL rs102q.cells := fun x => (x.1, x.2.1, x.2.2.1, x.2.2.2.1, x.2.2.2.2, ())
def up102q : RL rs102q.cells → (List K2q) × (List (List Int)) × (List Int) × (List (List Int)) × Int := fun d => (d.1, d.2.1, d.2.2.1, d.2.2.2.1, d.2.2.2.2.1)
def s102q (k : Nat) (d : AD as102q) := giroref16_Post k d.1 d.2.1 d.2.2.1 d.2.2.2.1 d.2.2.2.2.1
def R102q : Nat × Entry := (50, fun k nm args h => entry as102q rs102q (s102q k) pk102q nm args h)
theorem ev102q (k : Nat) (d : AD as102q) : evF E102q A102q k 1000 0 Proofs.Tryz.f50 (absArgs as102q d).1 (absArgs as102q d).2 (outM rs102q up102q) = s102q k d := by
  obtain ⟨_, _, _, _, _, _⟩ := d
  kernel_rfl
theorem F102q : FnOK Proofs.Tryz.prog R102q := fn_b (E := E102q) (A := A102q) (na := 0) (fn := Proofs.Tryz.f50) (S := s102q) (unpack := up102q) B102q (by kernel_rfl) (loopsOK_of (n := 1) (by kernel_rfl) fun i hi => match i, hi with | 0, _ => ⟨L102_1q, by kernel_rfl, lk102_1q⟩ | i + 1, hi => absurd hi (by omega)) (by kernel_rfl) (by kernel_rfl) (fun _ => rfl) ev102q

/-! ### giro/giroref10.Net -/
noncomputable def E103q : Env := ⟨Proofs.Tryz.prog, fun _ => false, sumsOf []⟩
def I103_0q : Spec := ⟨[(1, .c (.int .i64)), (2, .c (.lit (.ptr 1001000 0))), (5, .c (.int .i64)), (6, .c (.int .i64))], [.box true [.dat false y3q, .dat false (.sl (.int .i64)), .dat false (.int .i64), .dat false (.sl (.int .i64))]], []⟩
def X0_103_0q : Spec := ⟨[(5, .c (.int .i64))], [], []⟩
def O103_0q : List (Ex × Spec) := [(.exit 0, X0_103_0q)]
def c103_0q (f : giroref10_Net_L0T) (d : I103_0q.den) : Option Int := f d.1.1.1 d.1.2.2.1.1 d.1.2.2.2.1.1 d.2.1.1 d.2.1.2.1 d.2.1.2.2.1 d.2.1.2.2.2.1
def T103_0q : OutD O103_0q → Int := fun d => d.1.1.1
def e103_0q (base : Nat) (x : Int) (R : Type) (K : Ex → St → Option R) : Option R := K (.exit 0) (stOf base X0_103_0q (((x, ()), ()), ()))
def L103_0q : LoopSum := ⟨I103_0q, O103_0q, Int, fun k d => c103_0q (giroref10_Net_L0 k k) d, e103_0q⟩
def A103q : Notes := ⟨[], [(3, L103_0q)]⟩
theorem B103q : EnvB E103q := env_n mixed_orders trivial
theorem st103_0q (k : Nat) (rec : giroref10_Net_L0T) (d : I103_0q.den) : c103_0q (giroref10_Net_L0b k rec) d = evC E103q A103q k 1000 0 28 (loopAt (bodyOf Proofs.Tryz.f128) 0) (stOf (1000 + loopBase) I103_0q d) (roundK 1000 I103_0q O103_0q T103_0q (c103_0q rec)) := by
  obtain ⟨⟨⟨_, _⟩, _, ⟨_, _⟩, ⟨_, _⟩, _⟩, ⟨⟨_, _, _, _, _⟩, _⟩⟩ := d
  kernel_rfl
theorem lk103_0q : LoopOK Proofs.Tryz.prog 1000 0 28 (loopAt (bodyOf Proofs.Tryz.f128) 0) L103_0q :=
  loop_b (A := A103q) (inS := I103_0q) (outs := O103_0q) B103q (loopsOK_none (by kernel_rfl)) T103_0q e103_0q (fun _ _ _ => rfl) (fun k n d => c103_0q (giroref10_Net_L0 k n) d) (fun _ _ => rfl) (fun k n d => st103_0q k (giroref10_Net_L0 k n) d)
def as103q : List AS := [.agg [.dat false y3q, .dat false (.sl (.int .i64)), .dat false (.int .i64), .dat false (.sl (.int .i64))], .c (.int .i64)]
def rs103q : RS := .c (.int .i64)
def pk103q : Int → RL rs103q.cells := fun x => (x, ())
def up103q : RL rs103q.cells → Int := fun d => d.1
def s103q (k : Nat) (d : AD as103q) := giroref10_Net k d.1 d.2.1 d.2.2.1 d.2.2.2.1 d.2.2.2.2.1
def R103q : Nat × Entry := (128, fun k nm args h => entry as103q rs103q (s103q k) pk103q nm args h)
theorem ev103q (k : Nat) (d : AD as103q) : evF E103q A103q k 1000 0 Proofs.Tryz.f128 (absArgs as103q d).1 (absArgs as103q d).2 (outM rs103q up103q) = s103q k d := by
  obtain ⟨_, _, _, _, _, _⟩ := d
  kernel_rfl
theorem F103q : FnOK Proofs.Tryz.prog R103q := fn_b (E := E103q) (A := A103q) (na := 0) (fn := Proofs.Tryz.f128) (S := s103q) (unpack := up103q) B103q (by kernel_rfl) (loopsOK_of (n := 1) (by kernel_rfl) fun i hi => match i, hi with | 0, _ => ⟨L103_0q, by kernel_rfl, lk103_0q⟩ | i + 1, hi => absurd hi (by omega)) (by kernel_rfl) (by kernel_rfl) (fun _ => rfl) ev103q

end Go.Ab.Gi
