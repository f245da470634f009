/- The shallow functions are what the program does, printed (abprint.py). -/
import Derived.Test.YtdlamiafpciphaaGiXS
import Derived.Test.YtdlamiafpciphaaProg
set_option linter.unusedVariables false
set_option maxRecDepth 100000
namespace Go.Ab.Gi

theorem mixed_orders : Proofs.Try.prog.follows .mixedOrders = true := by kernel_rfl

/-! ### giro/giroref13.Find -/
noncomputable def E1q : Env := ⟨Proofs.Try.prog, fun _ => false, sumsOf []⟩
def I1_0q : Spec := ⟨[(0, .c (.dat false y9q)), (1, .c (.int .i64)), (5, .c (.int .i64))], [], []⟩
def X0_1_0q : Spec := ⟨[], [], []⟩
def X1_1_0q : Spec := ⟨[(4, .c (.int .i64))], [], []⟩
def O1_0q : List (Ex × Spec) := [(.exit 0, X0_1_0q), (.ret, X1_1_0q)]
def c1_0q (f : giroref13_Find_L0T) (d : I1_0q.den) : Option (Unit ⊕ Int) := f d.1.1.1 d.1.2.1.1 d.1.2.2.1.1
def T1_0q : OutD O1_0q → (Unit ⊕ Int)
 | .inl d => .inl ()
 | .inr d => .inr d.1.1.1
def e1_0q (base : Nat) (x : (Unit ⊕ Int)) (R : Type) (K : Ex → St → Option R) : Option R := match x with
 | .inl x => K (.exit 0) (stOf base X0_1_0q ((), ()))
 | .inr x => K .ret (stOf base X1_1_0q (((x, ()), ()), ()))
def L1_0q : LoopSum := ⟨I1_0q, O1_0q, (Unit ⊕ Int), fun k d => c1_0q (giroref13_Find_L0 k k) d, e1_0q⟩
def A1q : Notes := ⟨[], [(2, L1_0q)]⟩
theorem B1q : EnvB E1q := env_n mixed_orders trivial
theorem st1_0q (k : Nat) (rec : giroref13_Find_L0T) (d : I1_0q.den) : c1_0q (giroref13_Find_L0b k rec) d = evC E1q A1q k 1000 0 20 (loopAt (bodyOf Proofs.Try.f35) 0) (stOf (1000 + loopBase) I1_0q d) (roundK 1000 I1_0q O1_0q T1_0q (c1_0q rec)) := by
  obtain ⟨⟨⟨_, _⟩, ⟨_, _⟩, ⟨_, _⟩, _⟩, _⟩ := d
  kernel_rfl
theorem lk1_0q : LoopOK Proofs.Try.prog 1000 0 20 (loopAt (bodyOf Proofs.Try.f35) 0) L1_0q :=
  loop_b (A := A1q) (inS := I1_0q) (outs := O1_0q) B1q (loopsOK_none (by kernel_rfl)) T1_0q e1_0q (by intro o R K; rcases o with o | o <;> rfl) (fun k n d => c1_0q (giroref13_Find_L0 k n) d) (fun _ _ => rfl) (fun k n d => st1_0q k (giroref13_Find_L0 k n) d)
def as1q : List AS := [.c (.dat false y9q), .c (.int .i64)]
def rs1q : RS := .c (.int .i64)
def pk1q : Int → RL rs1q.cells := fun x => (x, ())
def up1q : RL rs1q.cells → Int := fun d => d.1
def s1q (k : Nat) (d : AD as1q) := giroref13_Find k d.1 d.2.1
def R1q : Nat × Entry := (35, fun k nm args h => entry as1q rs1q (s1q k) pk1q nm args h)
theorem ev1q (k : Nat) (d : AD as1q) : evF E1q A1q k 1000 0 Proofs.Try.f35 (absArgs as1q d).1 (absArgs as1q d).2 (outM rs1q up1q) = s1q k d := by
  obtain ⟨_, _, _⟩ := d
  kernel_rfl
theorem F1q : FnOK Proofs.Try.prog R1q := fn_b (E := E1q) (A := A1q) (na := 0) (fn := Proofs.Try.f35) (S := s1q) (unpack := up1q) B1q (by kernel_rfl) (loopsOK_of (n := 1) (by kernel_rfl) fun i hi => match i, hi with | 0, _ => ⟨L1_0q, by kernel_rfl, lk1_0q⟩ | i + 1, hi => absurd hi (by omega)) (by kernel_rfl) (by kernel_rfl) (fun _ => rfl) ev1q

/-! ### giro/giroref13.ahead -/
noncomputable def E2q : Env := ⟨Proofs.Try.prog, fun _ => false, sumsOf []⟩
def A2q : Notes := ⟨[], []⟩
theorem B2q : EnvB E2q := env_n mixed_orders trivial
def as2q : List AS := [.agg [.int .i64, .int .i64, .int .i64, .int .i64, .int .i64, .int .i64, .int .i64], .agg [.int .i64, .int .i64, .int .i64, .int .i64, .int .i64, .int .i64, .int .i64]]
def rs2q : RS := .c (.bool)
def pk2q : Bool → RL rs2q.cells := fun x => (x, ())
def up2q : RL rs2q.cells → Bool := fun d => d.1
def s2q (k : Nat) (d : AD as2q) := giroref13_ahead k d.1 d.2.1 d.2.2.1 d.2.2.2.1 d.2.2.2.2.1 d.2.2.2.2.2.1 d.2.2.2.2.2.2.1 d.2.2.2.2.2.2.2.1 d.2.2.2.2.2.2.2.2.1 d.2.2.2.2.2.2.2.2.2.1 d.2.2.2.2.2.2.2.2.2.2.1 d.2.2.2.2.2.2.2.2.2.2.2.1 d.2.2.2.2.2.2.2.2.2.2.2.2.1 d.2.2.2.2.2.2.2.2.2.2.2.2.2.1
def R2q : Nat × Entry := (59, fun k nm args h => entry as2q rs2q (s2q k) pk2q nm args h)
theorem ev2q (k : Nat) (d : AD as2q) : evF E2q A2q k 1000 0 Proofs.Try.f59 (absArgs as2q d).1 (absArgs as2q d).2 (outM rs2q up2q) = s2q k d := by
  obtain ⟨_, _, _, _, _, _, _, _, _, _, _, _, _, _, _⟩ := d
  kernel_rfl
theorem F2q : FnOK Proofs.Try.prog R2q := fn_b (E := E2q) (A := A2q) (na := 0) (fn := Proofs.Try.f59) (S := s2q) (unpack := up2q) B2q (by kernel_rfl) (loopsOK_none (by kernel_rfl)) (by kernel_rfl) (by kernel_rfl) (fun _ => rfl) ev2q

/-! ### giro/giroref13.behind -/
noncomputable def E3q : Env := ⟨Proofs.Try.prog, fun _ => false, sumsOf [R2q]⟩
def I3_0q : Spec := ⟨[(0, .c (.dat false y9q)), (3, .c (.lit (.ptr 1001000 0))), (5, .c (.int .i64))], [.box true [.int .i64, .int .i64, .int .i64, .int .i64, .int .i64, .int .i64, .int .i64]], []⟩
def X0_3_0q : Spec := ⟨[(5, .c (.int .i64))], [], []⟩
def O3_0q : List (Ex × Spec) := [(.exit 0, X0_3_0q)]
def c3_0q (f : giroref13_behind_L0T) (d : I3_0q.den) : Option Int := f d.1.1.1 d.1.2.2.1.1 d.2.1.1 d.2.1.2.1 d.2.1.2.2.1 d.2.1.2.2.2.1 d.2.1.2.2.2.2.1 d.2.1.2.2.2.2.2.1 d.2.1.2.2.2.2.2.2.1
def T3_0q : OutD O3_0q → Int := fun d => d.1.1.1
def e3_0q (base : Nat) (x : Int) (R : Type) (K : Ex → St → Option R) : Option R := K (.exit 0) (stOf base X0_3_0q (((x, ()), ()), ()))
def L3_0q : LoopSum := ⟨I3_0q, O3_0q, Int, fun k d => c3_0q (giroref13_behind_L0 k k) d, e3_0q⟩
def A3q : Notes := ⟨[], [(2, L3_0q)]⟩
theorem B3q : EnvB E3q := env_n mixed_orders ⟨F2q, trivial⟩
theorem st3_0q (k : Nat) (rec : giroref13_behind_L0T) (d : I3_0q.den) : c3_0q (giroref13_behind_L0b k rec) d = evC E3q A3q k 1000 0 21 (loopAt (bodyOf Proofs.Try.f82) 0) (stOf (1000 + loopBase) I3_0q d) (roundK 1000 I3_0q O3_0q T3_0q (c3_0q rec)) := by
  obtain ⟨⟨⟨_, _⟩, _, ⟨_, _⟩, _⟩, ⟨⟨_, _, _, _, _, _, _, _⟩, _⟩⟩ := d
  kernel_rfl
theorem lk3_0q : LoopOK Proofs.Try.prog 1000 0 21 (loopAt (bodyOf Proofs.Try.f82) 0) L3_0q :=
  loop_b (A := A3q) (inS := I3_0q) (outs := O3_0q) B3q (loopsOK_none (by kernel_rfl)) T3_0q e3_0q (fun _ _ _ => rfl) (fun k n d => c3_0q (giroref13_behind_L0 k n) d) (fun _ _ => rfl) (fun k n d => st3_0q k (giroref13_behind_L0 k n) d)
def as3q : List AS := [.c (.dat false y9q), .agg [.int .i64, .int .i64, .int .i64, .int .i64, .int .i64, .int .i64, .int .i64]]
def rs3q : RS := .c (.int .i64)
def pk3q : Int → RL rs3q.cells := fun x => (x, ())
def up3q : RL rs3q.cells → Int := fun d => d.1
def s3q (k : Nat) (d : AD as3q) := giroref13_behind k d.1 d.2.1 d.2.2.1 d.2.2.2.1 d.2.2.2.2.1 d.2.2.2.2.2.1 d.2.2.2.2.2.2.1 d.2.2.2.2.2.2.2.1
def R3q : Nat × Entry := (82, fun k nm args h => entry as3q rs3q (s3q k) pk3q nm args h)
theorem ev3q (k : Nat) (d : AD as3q) : evF E3q A3q k 1000 0 Proofs.Try.f82 (absArgs as3q d).1 (absArgs as3q d).2 (outM rs3q up3q) = s3q k d := by
  obtain ⟨_, _, _, _, _, _, _, _, _⟩ := d
  kernel_rfl
theorem F3q : FnOK Proofs.Try.prog R3q := fn_b (E := E3q) (A := A3q) (na := 0) (fn := Proofs.Try.f82) (S := s3q) (unpack := up3q) B3q (by kernel_rfl) (loopsOK_of (n := 1) (by kernel_rfl) fun i hi => match i, hi with | 0, _ => ⟨L3_0q, by kernel_rfl, lk3_0q⟩ | i + 1, hi => absurd hi (by omega)) (by kernel_rfl) (by kernel_rfl) (fun _ => rfl) ev3q

/-! ### giro/giroref13.insert -/
noncomputable def E4q : Env := ⟨Proofs.Try.prog, fun _ => false, sumsOf []⟩
def A4q : Notes := ⟨[], []⟩
theorem B4q : EnvB E4q := env_n mixed_orders trivial
def as4q : List AS := [.c (.dat false y9q), .c (.int .i64), .agg [.int .i64, .int .i64, .int .i64, .int .i64, .int .i64, .int .i64, .int .i64]]
def rs4q : RS := .c (.own y9q)
def pk4q : List K2q → RL rs4q.cells := fun x => (x, ())
def up4q : RL rs4q.cells → List K2q := fun d => d.1
def s4q (k : Nat) (d : AD as4q) := giroref13_insert k d.1 d.2.1 d.2.2.1 d.2.2.2.1 d.2.2.2.2.1 d.2.2.2.2.2.1 d.2.2.2.2.2.2.1 d.2.2.2.2.2.2.2.1 d.2.2.2.2.2.2.2.2.1
def R4q : Nat × Entry := (81, fun k nm args h => entry as4q rs4q (s4q k) pk4q nm args h)
theorem ev4q (k : Nat) (d : AD as4q) : evF E4q A4q k 1000 0 Proofs.Try.f81 (absArgs as4q d).1 (absArgs as4q d).2 (outM rs4q up4q) = s4q k d := by
  obtain ⟨_, _, _, _, _, _, _, _, _, _⟩ := d
  kernel_rfl
theorem F4q : FnOK Proofs.Try.prog R4q := fn_b (E := E4q) (A := A4q) (na := 0) (fn := Proofs.Try.f81) (S := s4q) (unpack := up4q) B4q (by kernel_rfl) (loopsOK_none (by kernel_rfl)) (by kernel_rfl) (by kernel_rfl) (fun _ => rfl) ev4q

/-! ### giro/giroref13.Put -/
noncomputable def E5q : Env := ⟨Proofs.Try.prog, fun _ => false, sumsOf [R1q, R3q, R4q]⟩
def A5q : Notes := ⟨[], []⟩
theorem B5q : EnvB E5q := env_n mixed_orders ⟨F1q, F3q, F4q, trivial⟩
def as5q : List AS := [.c (.dat true y9q), .agg [.int .i64, .int .i64, .int .i64, .int .i64, .int .i64, .int .i64, .int .i64]]
def rs5q : RS := .tup [(false, [.fro y9q]), (false, [.int .i64])]
def pk5q : (List K2q) × Int → RL rs5q.cells := fun x => (x.1, x.2, ())
def up5q : RL rs5q.cells → (List K2q) × Int := fun d => (d.1, d.2.1)
def s5q (k : Nat) (d : AD as5q) := giroref13_Put k d.1 d.2.1 d.2.2.1 d.2.2.2.1 d.2.2.2.2.1 d.2.2.2.2.2.1 d.2.2.2.2.2.2.1 d.2.2.2.2.2.2.2.1
def R5q : Nat × Entry := (47, fun k nm args h => entry as5q rs5q (s5q k) pk5q nm args h)
theorem ev5q (k : Nat) (d : AD as5q) : evF E5q A5q k 1000 0 Proofs.Try.f47 (absArgs as5q d).1 (absArgs as5q d).2 (outM rs5q up5q) = s5q k d := by
  obtain ⟨_, _, _, _, _, _, _, _, _⟩ := d
  kernel_rfl
theorem F5q : FnOK Proofs.Try.prog R5q := fn_b (E := E5q) (A := A5q) (na := 0) (fn := Proofs.Try.f47) (S := s5q) (unpack := up5q) B5q (by kernel_rfl) (loopsOK_none (by kernel_rfl)) (by kernel_rfl) (by kernel_rfl) (fun _ => rfl) ev5q

/-! ### giro/pay.Ready -/
noncomputable def E7q : Env := ⟨Proofs.Try.prog, fun _ => false, sumsOf []⟩
def A7q : Notes := ⟨[], []⟩
theorem B7q : EnvB E7q := env_n mixed_orders trivial
def as7q : List AS := [.agg [.int .i64, .int .i64, .int .i64, .int .i64, .int .i64, .int .i64, .int .i64], .c (.int .i64)]
def rs7q : RS := .c (.bool)
def pk7q : Bool → RL rs7q.cells := fun x => (x, ())
def up7q : RL rs7q.cells → Bool := fun d => d.1
def s7q (k : Nat) (d : AD as7q) := pay_Ready k d.1 d.2.1 d.2.2.1 d.2.2.2.1 d.2.2.2.2.1 d.2.2.2.2.2.1 d.2.2.2.2.2.2.1 d.2.2.2.2.2.2.2.1
def R7q : Nat × Entry := (85, fun k nm args h => entry as7q rs7q (s7q k) pk7q nm args h)
theorem ev7q (k : Nat) (d : AD as7q) : evF E7q A7q k 1000 0 Proofs.Try.f85 (absArgs as7q d).1 (absArgs as7q d).2 (outM rs7q up7q) = s7q k d := by
  obtain ⟨_, _, _, _, _, _, _, _, _⟩ := d
  kernel_rfl
theorem F7q : FnOK Proofs.Try.prog R7q := fn_b (E := E7q) (A := A7q) (na := 0) (fn := Proofs.Try.f85) (S := s7q) (unpack := up7q) B7q (by kernel_rfl) (loopsOK_none (by kernel_rfl)) (by kernel_rfl) (by kernel_rfl) (fun _ => rfl) ev7q

/-! ### giro/view.Ready$1 -/
noncomputable def E8q : Env := ⟨Proofs.Try.prog, fun _ => false, sumsOf [R7q]⟩
def A8q : Notes := ⟨[], []⟩
theorem B8q : EnvB E8q := env_n mixed_orders ⟨F7q, trivial⟩
def as8q : List AS := [.agg [.int .i64, .int .i64, .int .i64, .int .i64, .int .i64, .int .i64, .int .i64], .ptr [.int .i64]]
def rs8q : RS := .c (.bool)
def pk8q : Bool → RL rs8q.cells := fun x => (x, ())
def up8q : RL rs8q.cells → Bool := fun d => d.1
def s8q (k : Nat) (d : AD as8q) := view_Ready_fn1 k d.1 d.2.1 d.2.2.1 d.2.2.2.1 d.2.2.2.2.1 d.2.2.2.2.2.1 d.2.2.2.2.2.2.1 d.2.2.2.2.2.2.2.1
def R8q : Nat × Entry := (84, fun k nm args h => entry as8q rs8q (s8q k) pk8q nm args h)
theorem ev8q (k : Nat) (d : AD as8q) : evF E8q A8q k 1000 0 Proofs.Try.f84 (absArgs as8q d).1 (absArgs as8q d).2 (outM rs8q up8q) = s8q k d := by
  obtain ⟨_, _, _, _, _, _, _, _, _⟩ := d
  kernel_rfl
theorem F8q : FnOK Proofs.Try.prog R8q := fn_b (E := E8q) (A := A8q) (na := 0) (fn := Proofs.Try.f84) (S := s8q) (unpack := up8q) B8q (by kernel_rfl) (loopsOK_none (by kernel_rfl)) (by kernel_rfl) (by kernel_rfl) (fun _ => rfl) ev8q

/-! ### giro/view.all -/
noncomputable def E9q : Env := ⟨Proofs.Try.prog, fun _ => false, sumsOf [R8q]⟩
def I9_0q : Spec := ⟨[(1, .c (.lit (.fn 84 [1001000]))), (5, .c (.lit (.osl 1001001 none))), (8, .c (.dat false y9q)), (9, .c (.int .i64)), (10, .c (.int .i64))], [.robox [.int .i64], .arr true y9q], [(5, none, y9q, false)]⟩
def X0_9_0q : Spec := ⟨[(5, .c (.lit (.osl 1001000 none)))], [.arr true y9q], []⟩
def O9_0q : List (Ex × Spec) := [(.exit 0, X0_9_0q)]
def c9_0q (f : view_all__view_Ready_fn1_L0T) (d : I9_0q.den) : Option view_all__view_Ready_fn1_L0X := f d.1.2.2.1.1 d.1.2.2.2.1.1 d.1.2.2.2.2.1.1 d.2.1.1 d.2.2.1
def T9_0q : OutD O9_0q → view_all__view_Ready_fn1_L0X := fun d => d.2.1
def e9_0q (base : Nat) (x : view_all__view_Ready_fn1_L0X) (R : Type) (K : Ex → St → Option R) : Option R := K (.exit 0) (stOf base X0_9_0q (((), ()), (x, ())))
def L9_0q : LoopSum := ⟨I9_0q, O9_0q, view_all__view_Ready_fn1_L0X, fun k d => c9_0q (view_all__view_Ready_fn1_L0 k k) d, e9_0q⟩
def A9q : Notes := ⟨[], [(3, L9_0q)]⟩
theorem B9q : EnvB E9q := env_n mixed_orders ⟨F8q, trivial⟩
theorem st9_0q (k : Nat) (rec : view_all__view_Ready_fn1_L0T) (d : I9_0q.den) : c9_0q (view_all__view_Ready_fn1_L0b k rec) d = evC E9q A9q k 1000 0 23 (loopAt (bodyOf Proofs.Try.f83) 0) (stOf (1000 + loopBase) I9_0q d) (roundK 1000 I9_0q O9_0q T9_0q (c9_0q rec)) := by
  obtain ⟨⟨_, _, ⟨_, _⟩, ⟨_, _⟩, ⟨_, _⟩, _⟩, ⟨⟨_, _⟩, _, _⟩⟩ := d
  kernel_rfl
theorem lk9_0q : LoopOK Proofs.Try.prog 1000 0 23 (loopAt (bodyOf Proofs.Try.f83) 0) L9_0q :=
  loop_b (A := A9q) (inS := I9_0q) (outs := O9_0q) B9q (loopsOK_none (by kernel_rfl)) T9_0q e9_0q (fun _ _ _ => rfl) (fun k n d => c9_0q (view_all__view_Ready_fn1_L0 k n) d) (fun _ _ => rfl) (fun k n d => st9_0q k (view_all__view_Ready_fn1_L0 k n) d)
def as9q : List AS := [.c (.dat false y9q), .fn 84 [[.int .i64]]]
def rs9q : RS := .c (.own y9q)
def pk9q : List K2q → RL rs9q.cells := fun x => (x, ())
def up9q : RL rs9q.cells → List K2q := fun d => d.1
def s9q (k : Nat) (d : AD as9q) := view_all__view_Ready_fn1 k d.1 d.2.1
def R9q : Nat × Entry := (83, fun k nm args h => entry as9q rs9q (s9q k) pk9q nm args h)
theorem ev9q (k : Nat) (d : AD as9q) : evF E9q A9q k 1000 0 Proofs.Try.f83 (absArgs as9q d).1 (absArgs as9q d).2 (outM rs9q up9q) = s9q k d := by
  obtain ⟨_, _, _⟩ := d
  kernel_rfl
theorem F9q : FnOK Proofs.Try.prog R9q := fn_b (E := E9q) (A := A9q) (na := 0) (fn := Proofs.Try.f83) (S := s9q) (unpack := up9q) B9q (by kernel_rfl) (loopsOK_of (n := 1) (by kernel_rfl) fun i hi => match i, hi with | 0, _ => ⟨L9_0q, by kernel_rfl, lk9_0q⟩ | i + 1, hi => absurd hi (by omega)) (by kernel_rfl) (by kernel_rfl) (fun _ => rfl) ev9q

/-! ### giro/view.Ready -/
noncomputable def E10q : Env := ⟨Proofs.Try.prog, fun _ => false, sumsOf [R9q]⟩
def A10q : Notes := ⟨[], []⟩
theorem B10q : EnvB E10q := env_n mixed_orders ⟨F9q, trivial⟩
def as10q : List AS := [.c (.dat false y9q), .c (.int .i64)]
def rs10q : RS := .c (.own y9q)
def pk10q : List K2q → RL rs10q.cells := fun x => (x, ())
def up10q : RL rs10q.cells → List K2q := fun d => d.1
def s10q (k : Nat) (d : AD as10q) := view_Ready k d.1 d.2.1
def R10q : Nat × Entry := (48, fun k nm args h => entry as10q rs10q (s10q k) pk10q nm args h)
theorem ev10q (k : Nat) (d : AD as10q) : evF E10q A10q k 1000 0 Proofs.Try.f48 (absArgs as10q d).1 (absArgs as10q d).2 (outM rs10q up10q) = s10q k d := by
  obtain ⟨_, _, _⟩ := d
  kernel_rfl
theorem F10q : FnOK Proofs.Try.prog R10q := fn_b (E := E10q) (A := A10q) (na := 0) (fn := Proofs.Try.f48) (S := s10q) (unpack := up10q) B10q (by kernel_rfl) (loopsOK_none (by kernel_rfl)) (by kernel_rfl) (by kernel_rfl) (fun _ => rfl) ev10q

/-! ### giro/view.Of$1 -/
noncomputable def E11q : Env := ⟨Proofs.Try.prog, fun _ => false, sumsOf []⟩
def A11q : Notes := ⟨[], []⟩
theorem B11q : EnvB E11q := env_n mixed_orders trivial
def as11q : List AS := [.agg [.int .i64, .int .i64, .int .i64, .int .i64, .int .i64, .int .i64, .int .i64], .ptr [.int .i64]]
def rs11q : RS := .c (.bool)
def pk11q : Bool → RL rs11q.cells := fun x => (x, ())
def up11q : RL rs11q.cells → Bool := fun d => d.1
def s11q (k : Nat) (d : AD as11q) := view_Of_fn1 k d.1 d.2.1 d.2.2.1 d.2.2.2.1 d.2.2.2.2.1 d.2.2.2.2.2.1 d.2.2.2.2.2.2.1 d.2.2.2.2.2.2.2.1
def R11q : Nat × Entry := (86, fun k nm args h => entry as11q rs11q (s11q k) pk11q nm args h)
theorem ev11q (k : Nat) (d : AD as11q) : evF E11q A11q k 1000 0 Proofs.Try.f86 (absArgs as11q d).1 (absArgs as11q d).2 (outM rs11q up11q) = s11q k d := by
  obtain ⟨_, _, _, _, _, _, _, _, _⟩ := d
  kernel_rfl
theorem F11q : FnOK Proofs.Try.prog R11q := fn_b (E := E11q) (A := A11q) (na := 0) (fn := Proofs.Try.f86) (S := s11q) (unpack := up11q) B11q (by kernel_rfl) (loopsOK_none (by kernel_rfl)) (by kernel_rfl) (by kernel_rfl) (fun _ => rfl) ev11q

/-! ### giro/view.all -/
noncomputable def E12q : Env := ⟨Proofs.Try.prog, fun _ => false, sumsOf [R11q]⟩
def I12_0q : Spec := ⟨[(1, .c (.lit (.fn 86 [1001000]))), (5, .c (.lit (.osl 1001001 none))), (8, .c (.dat false y9q)), (9, .c (.int .i64)), (10, .c (.int .i64))], [.robox [.int .i64], .arr true y9q], [(5, none, y9q, false)]⟩
def X0_12_0q : Spec := ⟨[(5, .c (.lit (.osl 1001000 none)))], [.arr true y9q], []⟩
def O12_0q : List (Ex × Spec) := [(.exit 0, X0_12_0q)]
def c12_0q (f : view_all__view_Of_fn1_L0T) (d : I12_0q.den) : Option view_all__view_Of_fn1_L0X := f d.1.2.2.1.1 d.1.2.2.2.1.1 d.1.2.2.2.2.1.1 d.2.1.1 d.2.2.1
def T12_0q : OutD O12_0q → view_all__view_Of_fn1_L0X := fun d => d.2.1
def e12_0q (base : Nat) (x : view_all__view_Of_fn1_L0X) (R : Type) (K : Ex → St → Option R) : Option R := K (.exit 0) (stOf base X0_12_0q (((), ()), (x, ())))
def L12_0q : LoopSum := ⟨I12_0q, O12_0q, view_all__view_Of_fn1_L0X, fun k d => c12_0q (view_all__view_Of_fn1_L0 k k) d, e12_0q⟩
def A12q : Notes := ⟨[], [(3, L12_0q)]⟩
theorem B12q : EnvB E12q := env_n mixed_orders ⟨F11q, trivial⟩
theorem st12_0q (k : Nat) (rec : view_all__view_Of_fn1_L0T) (d : I12_0q.den) : c12_0q (view_all__view_Of_fn1_L0b k rec) d = evC E12q A12q k 1000 0 23 (loopAt (bodyOf Proofs.Try.f83) 0) (stOf (1000 + loopBase) I12_0q d) (roundK 1000 I12_0q O12_0q T12_0q (c12_0q rec)) := by
  obtain ⟨⟨_, _, ⟨_, _⟩, ⟨_, _⟩, ⟨_, _⟩, _⟩, ⟨⟨_, _⟩, _, _⟩⟩ := d
  kernel_rfl
theorem lk12_0q : LoopOK Proofs.Try.prog 1000 0 23 (loopAt (bodyOf Proofs.Try.f83) 0) L12_0q :=
  loop_b (A := A12q) (inS := I12_0q) (outs := O12_0q) B12q (loopsOK_none (by kernel_rfl)) T12_0q e12_0q (fun _ _ _ => rfl) (fun k n d => c12_0q (view_all__view_Of_fn1_L0 k n) d) (fun _ _ => rfl) (fun k n d => st12_0q k (view_all__view_Of_fn1_L0 k n) d)
def as12q : List AS := [.c (.dat false y9q), .fn 86 [[.int .i64]]]
def rs12q : RS := .c (.own y9q)
def pk12q : List K2q → RL rs12q.cells := fun x => (x, ())
def up12q : RL rs12q.cells → List K2q := fun d => d.1
def s12q (k : Nat) (d : AD as12q) := view_all__view_Of_fn1 k d.1 d.2.1
def R12q : Nat × Entry := (83, fun k nm args h => entry as12q rs12q (s12q k) pk12q nm args h)
theorem ev12q (k : Nat) (d : AD as12q) : evF E12q A12q k 1000 0 Proofs.Try.f83 (absArgs as12q d).1 (absArgs as12q d).2 (outM rs12q up12q) = s12q k d := by
  obtain ⟨_, _, _⟩ := d
  kernel_rfl
theorem F12q : FnOK Proofs.Try.prog R12q := fn_b (E := E12q) (A := A12q) (na := 0) (fn := Proofs.Try.f83) (S := s12q) (unpack := up12q) B12q (by kernel_rfl) (loopsOK_of (n := 1) (by kernel_rfl) fun i hi => match i, hi with | 0, _ => ⟨L12_0q, by kernel_rfl, lk12_0q⟩ | i + 1, hi => absurd hi (by omega)) (by kernel_rfl) (by kernel_rfl) (fun _ => rfl) ev12q

/-! ### giro/view.Of -/
noncomputable def E13q : Env := ⟨Proofs.Try.prog, fun _ => false, sumsOf [R12q]⟩
def A13q : Notes := ⟨[], []⟩
theorem B13q : EnvB E13q := env_n mixed_orders ⟨F12q, trivial⟩
def as13q : List AS := [.c (.dat false y9q), .c (.int .i64)]
def rs13q : RS := .c (.own y9q)
def pk13q : List K2q → RL rs13q.cells := fun x => (x, ())
def up13q : RL rs13q.cells → List K2q := fun d => d.1
def s13q (k : Nat) (d : AD as13q) := view_Of k d.1 d.2.1
def R13q : Nat × Entry := (49, fun k nm args h => entry as13q rs13q (s13q k) pk13q nm args h)
theorem ev13q (k : Nat) (d : AD as13q) : evF E13q A13q k 1000 0 Proofs.Try.f49 (absArgs as13q d).1 (absArgs as13q d).2 (outM rs13q up13q) = s13q k d := by
  obtain ⟨_, _, _⟩ := d
  kernel_rfl
theorem F13q : FnOK Proofs.Try.prog R13q := fn_b (E := E13q) (A := A13q) (na := 0) (fn := Proofs.Try.f49) (S := s13q) (unpack := up13q) B13q (by kernel_rfl) (loopsOK_none (by kernel_rfl)) (by kernel_rfl) (by kernel_rfl) (fun _ => rfl) ev13q

/-! ### slices.Clone[[]int,int] -/
noncomputable def E14q : Env := ⟨Proofs.Try.prog, fun _ => false, sumsOf []⟩
def A14q : Notes := ⟨[], []⟩
theorem B14q : EnvB E14q := env_n mixed_orders trivial
def as14q : List AS := [.c (.dat false (.int .i64))]
def rs14q : RS := .c (.own (.int .i64))
def pk14q : List Int → RL rs14q.cells := fun x => (x, ())
def up14q : RL rs14q.cells → List Int := fun d => d.1
def s14q (k : Nat) (d : AD as14q) := slices_Clone_int k d.1
def R14q : Nat × Entry := (91, fun k nm args h => entry as14q rs14q (fun d => slices_Clone_int k d.1) pk14q nm args h)
theorem nil14q (k : Nat) : evF E14q A14q k 1000 0 Proofs.Try.f91 [.c .nsl] (boxHp []) (outM rs14q up14q) = slices_Clone_int k [] := by kernel_rfl
theorem ev14q (k : Nat) (xs : List Int) : evF E14q A14q k 1000 0 Proofs.Try.f91 [.c (.nfl false (.int .i64) xs)] (boxHp []) (outM rs14q up14q) = slices_Clone_int k xs := by kernel_rfl
theorem F14q : FnOK Proofs.Try.prog R14q := fn_nil (E := E14q) (A := A14q) (na := 0) (fn := Proofs.Try.f91) (t := (.int .i64)) (S := slices_Clone_int) (unpack := up14q) B14q (by kernel_rfl) (loopsOK_none (by kernel_rfl)) (by kernel_rfl) (by kernel_rfl) (fun _ => rfl) (fun k x hx => (nil14q k).trans hx) (fun k xs x hx => (ev14q k xs).trans hx)

/-! ### giro/view.Heads$1 -/
noncomputable def E15q : Env := ⟨Proofs.Try.prog, fun _ => false, sumsOf []⟩
def A15q : Notes := ⟨[], []⟩
theorem B15q : EnvB E15q := env_n mixed_orders trivial
def as15q : List AX := [.agg [.int .i64, .int .i64, .int .i64, .int .i64, .int .i64, .int .i64, .int .i64], .ptr true [.own (.int .i64)]]
def rs15q : RS := .c (.bool)
def os15q : List (List RC) := [[.own (.int .i64)]]
def pk15q : Bool × (List Int) → RL (rs15q.cells ++ os15q.flatten) := fun x => (x.1, x.2, ())
def up15q : RL (rs15q.cells ++ os15q.flatten) → Bool × (List Int) := fun d => (d.1, d.2.1)
def s15q (k : Nat) (d : XD as15q) := view_Heads_fn1 k d.1 d.2.1 d.2.2.1 d.2.2.2.1 d.2.2.2.2.1 d.2.2.2.2.2.1 d.2.2.2.2.2.2.1 d.2.2.2.2.2.2.2.1
def R15q : Nat × Entry := (92, fun k nm args h => entryX as15q rs15q os15q (s15q k) pk15q nm args h)
theorem ev15q (k : Nat) (d : XD as15q) : evF E15q A15q k 1000 2 Proofs.Try.f92 (absArgsX as15q d).1 (absArgsX as15q d).2 (outXM as15q rs15q os15q up15q) = s15q k d := by
  obtain ⟨_, _, _, _, _, _, _, _, _⟩ := d
  kernel_rfl
theorem F15q : FnOK Proofs.Try.prog R15q := fn_x (E := E15q) (A := A15q) (na := 2) (fn := Proofs.Try.f92) (S := s15q) (unpack := up15q) B15q (by kernel_rfl) (loopsOK_none (by kernel_rfl)) (by kernel_rfl) (by kernel_rfl) (fun _ => rfl) (by kernel_rfl) ev15q

/-! ### giro/view.all -/
noncomputable def E16q : Env := ⟨Proofs.Try.prog, fun _ => false, sumsOf [R15q]⟩
def I16_0q : Spec := ⟨[(1, .c (.lit (.fn 92 [1001000]))), (5, .c (.lit (.osl 1001002 none))), (8, .c (.dat false y9q)), (9, .c (.int .i64)), (10, .c (.int .i64))], [.box true [.lit (.osl 1001001 none)], .arr true (.int .i64), .arr true y9q], [(5, none, y9q, false)]⟩
def X0_16_0q : Spec := ⟨[(1, .c (.lit (.fn 92 [1001000]))), (5, .c (.lit (.osl 1001002 none)))], [.box true [.lit (.osl 1001001 none)], .arr true (.int .i64), .arr true y9q], []⟩
def O16_0q : List (Ex × Spec) := [(.exit 0, X0_16_0q)]
def c16_0q (f : view_all__view_Heads_fn1_L0T) (d : I16_0q.den) : Option view_all__view_Heads_fn1_L0X := f d.1.2.2.1.1 d.1.2.2.2.1.1 d.1.2.2.2.2.1.1 d.2.2.1 d.2.2.2.1
def T16_0q : OutD O16_0q → view_all__view_Heads_fn1_L0X := fun d => (d.2.2.1, d.2.2.2.1)
def e16_0q (base : Nat) (x : view_all__view_Heads_fn1_L0X) (R : Type) (K : Ex → St → Option R) : Option R := K (.exit 0) (stOf base X0_16_0q (((), (), ()), ((), x.1, x.2, ())))
def L16_0q : LoopSum := ⟨I16_0q, O16_0q, view_all__view_Heads_fn1_L0X, fun k d => c16_0q (view_all__view_Heads_fn1_L0 k k) d, e16_0q⟩
def A16q : Notes := ⟨[], [(3, L16_0q)]⟩
theorem B16q : EnvB E16q := env_n mixed_orders ⟨F15q, trivial⟩
theorem st16_0q (k : Nat) (rec : view_all__view_Heads_fn1_L0T) (d : I16_0q.den) : c16_0q (view_all__view_Heads_fn1_L0b k rec) d = evC E16q A16q k 1000 2 23 (loopAt (bodyOf Proofs.Try.f83) 0) (stOf (1000 + loopBase) I16_0q d) (roundK 1000 I16_0q O16_0q T16_0q (c16_0q rec)) := by
  obtain ⟨⟨_, _, ⟨_, _⟩, ⟨_, _⟩, ⟨_, _⟩, _⟩, ⟨_, _, _, _⟩⟩ := d
  kernel_rfl
theorem lk16_0q : LoopOK Proofs.Try.prog 1000 2 23 (loopAt (bodyOf Proofs.Try.f83) 0) L16_0q :=
  loop_b (A := A16q) (inS := I16_0q) (outs := O16_0q) B16q (loopsOK_none (by kernel_rfl)) T16_0q e16_0q (fun _ _ _ => rfl) (fun k n d => c16_0q (view_all__view_Heads_fn1_L0 k n) d) (fun _ _ => rfl) (fun k n d => st16_0q k (view_all__view_Heads_fn1_L0 k n) d)
def as16q : List AX := [.c (.p (.dat false y9q)), .fn 92 [(true, [.own (.int .i64)])]]
def rs16q : RS := .c (.own y9q)
def os16q : List (List RC) := [[.own (.int .i64)]]
def pk16q : (List K2q) × (List Int) → RL (rs16q.cells ++ os16q.flatten) := fun x => (x.1, x.2, ())
def up16q : RL (rs16q.cells ++ os16q.flatten) → (List K2q) × (List Int) := fun d => (d.1, d.2.1)
def s16q (k : Nat) (d : XD as16q) := view_all__view_Heads_fn1 k d.1 d.2.1
def R16q : Nat × Entry := (83, fun k nm args h => entryX as16q rs16q os16q (s16q k) pk16q nm args h)
theorem ev16q (k : Nat) (d : XD as16q) : evF E16q A16q k 1000 2 Proofs.Try.f83 (absArgsX as16q d).1 (absArgsX as16q d).2 (outXM as16q rs16q os16q up16q) = s16q k d := by
  obtain ⟨_, _, _⟩ := d
  kernel_rfl
theorem F16q : FnOK Proofs.Try.prog R16q := fn_x (E := E16q) (A := A16q) (na := 2) (fn := Proofs.Try.f83) (S := s16q) (unpack := up16q) B16q (by kernel_rfl) (loopsOK_of (n := 1) (by kernel_rfl) fun i hi => match i, hi with | 0, _ => ⟨L16_0q, by kernel_rfl, lk16_0q⟩ | i + 1, hi => absurd hi (by omega)) (by kernel_rfl) (by kernel_rfl) (fun _ => rfl) (by kernel_rfl) ev16q

/-! ### giro/view.Heads -/
noncomputable def E17q : Env := ⟨Proofs.Try.prog, fun _ => false, sumsOf [R14q, R16q]⟩
def A17q : Notes := ⟨[], []⟩
theorem B17q : EnvB E17q := env_n mixed_orders ⟨F14q, F16q, trivial⟩
def as17q : List AS := [.c (.dat false y9q), .c (.dat false (.int .i64))]
def rs17q : RS := .c (.own y9q)
def pk17q : List K2q → RL rs17q.cells := fun x => (x, ())
def up17q : RL rs17q.cells → List K2q := fun d => d.1
def s17q (k : Nat) (d : AD as17q) := view_Heads k d.1 d.2.1
def R17q : Nat × Entry := (51, fun k nm args h => entry as17q rs17q (s17q k) pk17q nm args h)
theorem ev17q (k : Nat) (d : AD as17q) : evF E17q A17q k 1000 0 Proofs.Try.f51 (absArgs as17q d).1 (absArgs as17q d).2 (outM rs17q up17q) = s17q k d := by
  obtain ⟨_, _, _⟩ := d
  kernel_rfl
theorem F17q : FnOK Proofs.Try.prog R17q := fn_b (E := E17q) (A := A17q) (na := 0) (fn := Proofs.Try.f51) (S := s17q) (unpack := up17q) B17q (by kernel_rfl) (loopsOK_none (by kernel_rfl)) (by kernel_rfl) (by kernel_rfl) (fun _ => rfl) ev17q

/-! ### giro/lim.isSize -/
noncomputable def E18q : Env := ⟨Proofs.Try.prog, fun _ => false, sumsOf []⟩
def A18q : Notes := ⟨[], []⟩
theorem B18q : EnvB E18q := env_n mixed_orders trivial
def as18q : List AS := [.c (.int .i64)]
def rs18q : RS := .c (.bool)
def pk18q : Bool → RL rs18q.cells := fun x => (x, ())
def up18q : RL rs18q.cells → Bool := fun d => d.1
def s18q (k : Nat) (d : AD as18q) := lim_isSize k d.1
def R18q : Nat × Entry := (128, fun k nm args h => entry as18q rs18q (s18q k) pk18q nm args h)
theorem ev18q (k : Nat) (d : AD as18q) : evF E18q A18q k 1000 0 Proofs.Try.f128 (absArgs as18q d).1 (absArgs as18q d).2 (outM rs18q up18q) = s18q k d := by
  obtain ⟨_, _⟩ := d
  kernel_rfl
theorem F18q : FnOK Proofs.Try.prog R18q := fn_b (E := E18q) (A := A18q) (na := 0) (fn := Proofs.Try.f128) (S := s18q) (unpack := up18q) B18q (by kernel_rfl) (loopsOK_none (by kernel_rfl)) (by kernel_rfl) (by kernel_rfl) (fun _ => rfl) ev18q

/-! ### giro/lim.Row -/
noncomputable def E19q : Env := ⟨Proofs.Try.prog, fun _ => false, sumsOf [R18q]⟩
def I19_0q : Spec := ⟨[(1, .c (.int .i64)), (5, .c (.lit (.osl 1001000 none))), (13, .c (.int .i64)), (14, .c (.int .i64))], [.arr true (.int .i64)], []⟩
def X0_19_0q : Spec := ⟨[(5, .c (.lit (.osl 1001000 none)))], [.arr true (.int .i64)], []⟩
def O19_0q : List (Ex × Spec) := [(.exit 0, X0_19_0q)]
def c19_0q (f : lim_Row_L0T) (d : I19_0q.den) : Option (List Int) := f d.1.1.1 d.1.2.2.1.1 d.1.2.2.2.1.1 d.2.1
def T19_0q : OutD O19_0q → (List Int) := fun d => d.2.1
def e19_0q (base : Nat) (x : (List Int)) (R : Type) (K : Ex → St → Option R) : Option R := K (.exit 0) (stOf base X0_19_0q (((), ()), (x, ())))
def L19_0q : LoopSum := ⟨I19_0q, O19_0q, (List Int), fun k d => c19_0q (lim_Row_L0 k k) d, e19_0q⟩
def A19q : Notes := ⟨[], [(5, L19_0q)]⟩
theorem B19q : EnvB E19q := env_n mixed_orders ⟨F18q, trivial⟩
theorem st19_0q (k : Nat) (rec : lim_Row_L0T) (d : I19_0q.den) : c19_0q (lim_Row_L0b k rec) d = evC E19q A19q k 1000 0 23 (loopAt (bodyOf Proofs.Try.f107) 0) (stOf (1000 + loopBase) I19_0q d) (roundK 1000 I19_0q O19_0q T19_0q (c19_0q rec)) := by
  obtain ⟨⟨⟨_, _⟩, _, ⟨_, _⟩, ⟨_, _⟩, _⟩, ⟨_, _⟩⟩ := d
  kernel_rfl
theorem lk19_0q : LoopOK Proofs.Try.prog 1000 0 23 (loopAt (bodyOf Proofs.Try.f107) 0) L19_0q :=
  loop_b (A := A19q) (inS := I19_0q) (outs := O19_0q) B19q (loopsOK_none (by kernel_rfl)) T19_0q e19_0q (fun _ _ _ => rfl) (fun k n d => c19_0q (lim_Row_L0 k n) d) (fun _ _ => rfl) (fun k n d => st19_0q k (lim_Row_L0 k n) d)
def as19q : List AS := [.c (.int .i64), .c (.int .i64)]
def rs19q : RS := .c (.own (.int .i64))
def pk19q : List Int → RL rs19q.cells := fun x => (x, ())
def up19q : RL rs19q.cells → List Int := fun d => d.1
def s19q (k : Nat) (d : AD as19q) := lim_Row k d.1 d.2.1
def R19q : Nat × Entry := (107, fun k nm args h => entry as19q rs19q (s19q k) pk19q nm args h)
theorem ev19q (k : Nat) (d : AD as19q) : evF E19q A19q k 1000 0 Proofs.Try.f107 (absArgs as19q d).1 (absArgs as19q d).2 (outM rs19q up19q) = s19q k d := by
  obtain ⟨_, _, _⟩ := d
  kernel_rfl
theorem F19q : FnOK Proofs.Try.prog R19q := fn_b (E := E19q) (A := A19q) (na := 0) (fn := Proofs.Try.f107) (S := s19q) (unpack := up19q) B19q (by kernel_rfl) (loopsOK_of (n := 1) (by kernel_rfl) fun i hi => match i, hi with | 0, _ => ⟨L19_0q, by kernel_rfl, lk19_0q⟩ | i + 1, hi => absurd hi (by omega)) (by kernel_rfl) (by kernel_rfl) (fun _ => rfl) ev19q

/-! ### giro/lim.Square -/
noncomputable def E20q : Env := ⟨Proofs.Try.prog, fun _ => false, sumsOf [R18q, R19q]⟩
def I20_0q : Spec := ⟨[(0, .c (.int .i64)), (1, .c (.int .i64)), (5, .c (.lit (.osl 1001000 none))), (13, .c (.int .i64)), (14, .c (.int .i64))], [.mat], []⟩
def X0_20_0q : Spec := ⟨[(5, .c (.lit (.osl 1001000 none)))], [.mat], []⟩
def O20_0q : List (Ex × Spec) := [(.exit 0, X0_20_0q)]
def c20_0q (f : lim_Square_L0T) (d : I20_0q.den) : Option (List (List Int)) := f d.1.1.1 d.1.2.1.1 d.1.2.2.2.1.1 d.1.2.2.2.2.1.1 d.2.1
def T20_0q : OutD O20_0q → (List (List Int)) := fun d => d.2.1
def e20_0q (base : Nat) (x : (List (List Int))) (R : Type) (K : Ex → St → Option R) : Option R := K (.exit 0) (stOf base X0_20_0q (((), ()), (x, ())))
def L20_0q : LoopSum := ⟨I20_0q, O20_0q, (List (List Int)), fun k d => c20_0q (lim_Square_L0 k k) d, e20_0q⟩
def A20q : Notes := ⟨[11], [(5, L20_0q)]⟩
theorem B20q : EnvB E20q := env_n mixed_orders ⟨F18q, F19q, trivial⟩
theorem st20_0q (k : Nat) (rec : lim_Square_L0T) (d : I20_0q.den) : c20_0q (lim_Square_L0b k rec) d = evC E20q A20q k 1000 0 25 (loopAt (bodyOf Proofs.Try.f108) 0) (stOf (1000 + loopBase) I20_0q d) (roundK 1000 I20_0q O20_0q T20_0q (c20_0q rec)) := by
  obtain ⟨⟨⟨_, _⟩, ⟨_, _⟩, _, ⟨_, _⟩, ⟨_, _⟩, _⟩, ⟨_, _⟩⟩ := d
  kernel_rfl
theorem lk20_0q : LoopOK Proofs.Try.prog 1000 0 25 (loopAt (bodyOf Proofs.Try.f108) 0) L20_0q :=
  loop_b (A := A20q) (inS := I20_0q) (outs := O20_0q) B20q (loopsOK_none (by kernel_rfl)) T20_0q e20_0q (fun _ _ _ => rfl) (fun k n d => c20_0q (lim_Square_L0 k n) d) (fun _ _ => rfl) (fun k n d => st20_0q k (lim_Square_L0 k n) d)
def as20q : List AS := [.c (.int .i64), .c (.int .i64)]
def rs20q : RS := .c (.mat)
def pk20q : List (List Int) → RL rs20q.cells := fun x => (x, ())
def up20q : RL rs20q.cells → List (List Int) := fun d => d.1
def s20q (k : Nat) (d : AD as20q) := lim_Square k d.1 d.2.1
def R20q : Nat × Entry := (108, fun k nm args h => entry as20q rs20q (s20q k) pk20q nm args h)
theorem ev20q (k : Nat) (d : AD as20q) : evF E20q A20q k 1000 0 Proofs.Try.f108 (absArgs as20q d).1 (absArgs as20q d).2 (outM rs20q up20q) = s20q k d := by
  obtain ⟨_, _, _⟩ := d
  kernel_rfl
theorem F20q : FnOK Proofs.Try.prog R20q := fn_b (E := E20q) (A := A20q) (na := 0) (fn := Proofs.Try.f108) (S := s20q) (unpack := up20q) B20q (by kernel_rfl) (loopsOK_of (n := 1) (by kernel_rfl) fun i hi => match i, hi with | 0, _ => ⟨L20_0q, by kernel_rfl, lk20_0q⟩ | i + 1, hi => absurd hi (by omega)) (by kernel_rfl) (by kernel_rfl) (fun _ => rfl) ev20q

/-! ### giro/fits.moved -/
noncomputable def E21q : Env := ⟨Proofs.Try.prog, fun _ => false, sumsOf [R19q, R20q]⟩
def I21_0q : Spec := ⟨[(4, .c (.lit (.ptr 1001000 0))), (5, .c (.lit (.ptr 1001001 0))), (15, .c (.dat false y9q)), (16, .c (.int .i64)), (17, .c (.int .i64))], [.box true [.lit .nsl, .lit .nsl, .lit .nsl], .box true [.lit (.osl 1001002 none), .lit (.osl 1001003 none), .lit (.osl 1001004 none)], .arr true (.int .i64), .arr true (.int .i64), .mat], []⟩
def X0_21_0q : Spec := ⟨[(4, .c (.lit (.ptr 1001000 0))), (5, .c (.lit (.ptr 1001001 0)))], [.box true [.lit .nsl, .lit .nsl, .lit .nsl], .box true [.lit (.osl 1001002 none), .lit (.osl 1001003 none), .lit (.osl 1001004 none)], .arr true (.int .i64), .arr true (.int .i64), .mat], []⟩
def O21_0q : List (Ex × Spec) := [(.exit 0, X0_21_0q)]
def c21_0q (f : fits_moved_L0T) (d : I21_0q.den) : Option fits_moved_L0X := f d.1.2.2.1.1 d.1.2.2.2.1.1 d.1.2.2.2.2.1.1 d.2.2.2.1 d.2.2.2.2.1 d.2.2.2.2.2.1
def T21_0q : OutD O21_0q → fits_moved_L0X := fun d => (d.2.2.2.1, d.2.2.2.2.1, d.2.2.2.2.2.1)
def e21_0q (base : Nat) (x : fits_moved_L0X) (R : Type) (K : Ex → St → Option R) : Option R := K (.exit 0) (stOf base X0_21_0q (((), (), ()), ((), (), x.1, x.2.1, x.2.2, ())))
def L21_0q : LoopSum := ⟨I21_0q, O21_0q, fits_moved_L0X, fun k d => c21_0q (fits_moved_L0 k k) d, e21_0q⟩
def A21q : Notes := ⟨[], [(3, L21_0q)]⟩
theorem B21q : EnvB E21q := env_n mixed_orders ⟨F19q, F20q, trivial⟩
theorem st21_0q (k : Nat) (rec : fits_moved_L0T) (d : I21_0q.den) : c21_0q (fits_moved_L0b k rec) d = evC E21q A21q k 1000 0 84 (loopAt (bodyOf Proofs.Try.f87) 0) (stOf (1000 + loopBase) I21_0q d) (roundK 1000 I21_0q O21_0q T21_0q (c21_0q rec)) := by
  obtain ⟨⟨_, _, ⟨_, _⟩, ⟨_, _⟩, ⟨_, _⟩, _⟩, ⟨_, _, _, _, _, _⟩⟩ := d
  kernel_rfl
theorem lk21_0q : LoopOK Proofs.Try.prog 1000 0 84 (loopAt (bodyOf Proofs.Try.f87) 0) L21_0q :=
  loop_b (A := A21q) (inS := I21_0q) (outs := O21_0q) B21q (loopsOK_none (by kernel_rfl)) T21_0q e21_0q (fun _ _ _ => rfl) (fun k n d => c21_0q (fits_moved_L0 k n) d) (fun _ _ => rfl) (fun k n d => st21_0q k (fits_moved_L0 k n) d)
def as21q : List AS := [.c (.int .i64), .c (.dat false y9q)]
def rs21q : RS := .agg [.own (.int .i64), .own (.int .i64), .mat]
def pk21q : (List Int) × (List Int) × (List (List Int)) → RL rs21q.cells := fun x => (x.1, x.2.1, x.2.2, ())
def up21q : RL rs21q.cells → (List Int) × (List Int) × (List (List Int)) := fun d => (d.1, d.2.1, d.2.2.1)
def s21q (k : Nat) (d : AD as21q) := fits_moved k d.1 d.2.1
def R21q : Nat × Entry := (87, fun k nm args h => entry as21q rs21q (s21q k) pk21q nm args h)
theorem ev21q (k : Nat) (d : AD as21q) : evF E21q A21q k 1000 0 Proofs.Try.f87 (absArgs as21q d).1 (absArgs as21q d).2 (outM rs21q up21q) = s21q k d := by
  obtain ⟨_, _, _⟩ := d
  kernel_rfl
theorem F21q : FnOK Proofs.Try.prog R21q := fn_b (E := E21q) (A := A21q) (na := 0) (fn := Proofs.Try.f87) (S := s21q) (unpack := up21q) B21q (by kernel_rfl) (loopsOK_of (n := 1) (by kernel_rfl) fun i hi => match i, hi with | 0, _ => ⟨L21_0q, by kernel_rfl, lk21_0q⟩ | i + 1, hi => absurd hi (by omega)) (by kernel_rfl) (by kernel_rfl) (fun _ => rfl) ev21q

/-! ### giro/fits.Short$1 -/
noncomputable def E22q : Env := ⟨Proofs.Try.prog, fun _ => false, sumsOf []⟩
def A22q : Notes := ⟨[], []⟩
theorem B22q : EnvB E22q := env_n mixed_orders trivial
def as22q : List AS := [.agg [.int .i64, .int .i64, .int .i64, .int .i64, .int .i64, .int .i64, .int .i64], .ptr [.int .i64]]
def rs22q : RS := .c (.bool)
def pk22q : Bool → RL rs22q.cells := fun x => (x, ())
def up22q : RL rs22q.cells → Bool := fun d => d.1
def s22q (k : Nat) (d : AD as22q) := fits_Short_fn1 k d.1 d.2.1 d.2.2.1 d.2.2.2.1 d.2.2.2.2.1 d.2.2.2.2.2.1 d.2.2.2.2.2.2.1 d.2.2.2.2.2.2.2.1
def R22q : Nat × Entry := (89, fun k nm args h => entry as22q rs22q (s22q k) pk22q nm args h)
theorem ev22q (k : Nat) (d : AD as22q) : evF E22q A22q k 1000 0 Proofs.Try.f89 (absArgs as22q d).1 (absArgs as22q d).2 (outM rs22q up22q) = s22q k d := by
  obtain ⟨_, _, _, _, _, _, _, _, _⟩ := d
  kernel_rfl
theorem F22q : FnOK Proofs.Try.prog R22q := fn_b (E := E22q) (A := A22q) (na := 0) (fn := Proofs.Try.f89) (S := s22q) (unpack := up22q) B22q (by kernel_rfl) (loopsOK_none (by kernel_rfl)) (by kernel_rfl) (by kernel_rfl) (fun _ => rfl) ev22q

/-! ### slices.IndexFunc[[]giro/api.Pay,giro/api.Pay] -/
noncomputable def E23q : Env := ⟨Proofs.Try.prog, fun _ => false, sumsOf [R22q]⟩
def I23_0q : Spec := ⟨[(0, .c (.dat false y9q)), (1, .c (.lit (.fn 89 [1001000]))), (7, .c (.int .i64)), (8, .c (.int .i64))], [.robox [.int .i64]], []⟩
def X0_23_0q : Spec := ⟨[], [], []⟩
def X1_23_0q : Spec := ⟨[(4, .c (.int .i64))], [], []⟩
def O23_0q : List (Ex × Spec) := [(.exit 0, X0_23_0q), (.ret, X1_23_0q)]
def c23_0q (f : slices_IndexFunc_Pay__fits_Short_fn1_L0T) (d : I23_0q.den) : Option (Unit ⊕ Int) := f d.1.1.1 d.1.2.2.1.1 d.1.2.2.2.1.1 d.2.1.1
def T23_0q : OutD O23_0q → (Unit ⊕ Int)
 | .inl d => .inl ()
 | .inr d => .inr d.1.1.1
def e23_0q (base : Nat) (x : (Unit ⊕ Int)) (R : Type) (K : Ex → St → Option R) : Option R := match x with
 | .inl x => K (.exit 0) (stOf base X0_23_0q ((), ()))
 | .inr x => K .ret (stOf base X1_23_0q (((x, ()), ()), ()))
def L23_0q : LoopSum := ⟨I23_0q, O23_0q, (Unit ⊕ Int), fun k d => c23_0q (slices_IndexFunc_Pay__fits_Short_fn1_L0 k k) d, e23_0q⟩
def A23q : Notes := ⟨[], [(2, L23_0q)]⟩
theorem B23q : EnvB E23q := env_n mixed_orders ⟨F22q, trivial⟩
theorem st23_0q (k : Nat) (rec : slices_IndexFunc_Pay__fits_Short_fn1_L0T) (d : I23_0q.den) : c23_0q (slices_IndexFunc_Pay__fits_Short_fn1_L0b k rec) d = evC E23q A23q k 1000 0 19 (loopAt (bodyOf Proofs.Try.f109) 0) (stOf (1000 + loopBase) I23_0q d) (roundK 1000 I23_0q O23_0q T23_0q (c23_0q rec)) := by
  obtain ⟨⟨⟨_, _⟩, _, ⟨_, _⟩, ⟨_, _⟩, _⟩, ⟨⟨_, _⟩, _⟩⟩ := d
  kernel_rfl
theorem lk23_0q : LoopOK Proofs.Try.prog 1000 0 19 (loopAt (bodyOf Proofs.Try.f109) 0) L23_0q :=
  loop_b (A := A23q) (inS := I23_0q) (outs := O23_0q) B23q (loopsOK_none (by kernel_rfl)) T23_0q e23_0q (by intro o R K; rcases o with o | o <;> rfl) (fun k n d => c23_0q (slices_IndexFunc_Pay__fits_Short_fn1_L0 k n) d) (fun _ _ => rfl) (fun k n d => st23_0q k (slices_IndexFunc_Pay__fits_Short_fn1_L0 k n) d)
def as23q : List AS := [.c (.dat false y9q), .fn 89 [[.int .i64]]]
def rs23q : RS := .c (.int .i64)
def pk23q : Int → RL rs23q.cells := fun x => (x, ())
def up23q : RL rs23q.cells → Int := fun d => d.1
def s23q (k : Nat) (d : AD as23q) := slices_IndexFunc_Pay__fits_Short_fn1 k d.1 d.2.1
def R23q : Nat × Entry := (109, fun k nm args h => entry as23q rs23q (s23q k) pk23q nm args h)
theorem ev23q (k : Nat) (d : AD as23q) : evF E23q A23q k 1000 0 Proofs.Try.f109 (absArgs as23q d).1 (absArgs as23q d).2 (outM rs23q up23q) = s23q k d := by
  obtain ⟨_, _, _⟩ := d
  kernel_rfl
theorem F23q : FnOK Proofs.Try.prog R23q := fn_b (E := E23q) (A := A23q) (na := 0) (fn := Proofs.Try.f109) (S := s23q) (unpack := up23q) B23q (by kernel_rfl) (loopsOK_of (n := 1) (by kernel_rfl) fun i hi => match i, hi with | 0, _ => ⟨L23_0q, by kernel_rfl, lk23_0q⟩ | i + 1, hi => absurd hi (by omega)) (by kernel_rfl) (by kernel_rfl) (fun _ => rfl) ev23q

/-! ### slices.ContainsFunc[[]giro/api.Pay,giro/api.Pay] -/
noncomputable def E24q : Env := ⟨Proofs.Try.prog, fun _ => false, sumsOf [R23q]⟩
def A24q : Notes := ⟨[], []⟩
theorem B24q : EnvB E24q := env_n mixed_orders ⟨F23q, trivial⟩
def as24q : List AS := [.c (.dat false y9q), .fn 89 [[.int .i64]]]
def rs24q : RS := .c (.bool)
def pk24q : Bool → RL rs24q.cells := fun x => (x, ())
def up24q : RL rs24q.cells → Bool := fun d => d.1
def s24q (k : Nat) (d : AD as24q) := slices_ContainsFunc_Pay__fits_Short_fn1 k d.1 d.2.1
def R24q : Nat × Entry := (88, fun k nm args h => entry as24q rs24q (s24q k) pk24q nm args h)
theorem ev24q (k : Nat) (d : AD as24q) : evF E24q A24q k 1000 0 Proofs.Try.f88 (absArgs as24q d).1 (absArgs as24q d).2 (outM rs24q up24q) = s24q k d := by
  obtain ⟨_, _, _⟩ := d
  kernel_rfl
theorem F24q : FnOK Proofs.Try.prog R24q := fn_b (E := E24q) (A := A24q) (na := 0) (fn := Proofs.Try.f88) (S := s24q) (unpack := up24q) B24q (by kernel_rfl) (loopsOK_none (by kernel_rfl)) (by kernel_rfl) (by kernel_rfl) (fun _ => rfl) ev24q

/-! ### giro/lim.Net -/
noncomputable def E25q : Env := ⟨Proofs.Try.prog, fun _ => false, sumsOf []⟩
def I25_0q : Spec := ⟨[(5, .c (.int .i64)), (12, .c (.dat false (.int .i64))), (13, .c (.int .i64)), (14, .c (.int .i64))], [], []⟩
def X0_25_0q : Spec := ⟨[(5, .c (.int .i64))], [], []⟩
def O25_0q : List (Ex × Spec) := [(.exit 0, X0_25_0q)]
def c25_0q (f : Int → List Int → Int → Int → Option Int) (d : I25_0q.den) : Option Int := f d.1.1.1 d.1.2.1.1 d.1.2.2.1.1 d.1.2.2.2.1.1
def T25_0q : OutD O25_0q → Int := fun d => d.1.1.1
def e25_0q (base : Nat) (x : Int) (R : Type) (K : Ex → St → Option R) : Option R := K (.exit 0) (stOf base X0_25_0q (((x, ()), ()), ()))
def L25_0q : LoopSum := ⟨I25_0q, O25_0q, Int, fun k d => c25_0q (lim_Net_L0 k k) d, e25_0q⟩
def A25q : Notes := ⟨[], [(3, L25_0q)]⟩
theorem B25q : EnvB E25q := env_n mixed_orders trivial
theorem st25_0q (k : Nat) (rec : Int → List Int → Int → Int → Option Int) (d : I25_0q.den) : c25_0q (lim_Net_L0b k rec) d = evC E25q A25q k 1000 0 23 (loopAt (bodyOf Proofs.Try.f110) 0) (stOf (1000 + loopBase) I25_0q d) (roundK 1000 I25_0q O25_0q T25_0q (c25_0q rec)) := by
  obtain ⟨⟨⟨_, _⟩, ⟨_, _⟩, ⟨_, _⟩, ⟨_, _⟩, _⟩, _⟩ := d
  kernel_rfl
theorem lk25_0q : LoopOK Proofs.Try.prog 1000 0 23 (loopAt (bodyOf Proofs.Try.f110) 0) L25_0q :=
  loop_b (A := A25q) (inS := I25_0q) (outs := O25_0q) B25q (loopsOK_none (by kernel_rfl)) T25_0q e25_0q (fun _ _ _ => rfl) (fun k n d => c25_0q (lim_Net_L0 k n) d) (fun _ _ => rfl) (fun k n d => st25_0q k (lim_Net_L0 k n) d)
def as25q : List AS := [.agg [.dat false y5q, .dat false (.sl (.int .i64)), .dat false (.int .i64), .dat false (.sl (.int .i64))], .c (.int .i64)]
def rs25q : RS := .c (.int .i64)
def pk25q : Int → RL rs25q.cells := fun x => (x, ())
def up25q : RL rs25q.cells → Int := fun d => d.1
def s25q (k : Nat) (d : AD as25q) := lim_Net k d.1 d.2.1 d.2.2.1 d.2.2.2.1 d.2.2.2.2.1
def R25q : Nat × Entry := (110, fun k nm args h => entry as25q rs25q (s25q k) pk25q nm args h)
theorem ev25q (k : Nat) (d : AD as25q) : evF E25q A25q k 1000 0 Proofs.Try.f110 (absArgs as25q d).1 (absArgs as25q d).2 (outM rs25q up25q) = s25q k d := by
  obtain ⟨_, _, _, _, _, _⟩ := d
  kernel_rfl
theorem F25q : FnOK Proofs.Try.prog R25q := fn_b (E := E25q) (A := A25q) (na := 0) (fn := Proofs.Try.f110) (S := s25q) (unpack := up25q) B25q (by kernel_rfl) (loopsOK_of (n := 1) (by kernel_rfl) fun i hi => match i, hi with | 0, _ => ⟨L25_0q, by kernel_rfl, lk25_0q⟩ | i + 1, hi => absurd hi (by omega)) (by kernel_rfl) (by kernel_rfl) (fun _ => rfl) ev25q

/-! ### giro/fits.over -/
noncomputable def E26q : Env := ⟨Proofs.Try.prog, fun _ => false, sumsOf []⟩
def A26q : Notes := ⟨[], []⟩
theorem B26q : EnvB E26q := env_n mixed_orders trivial
def as26q : List AS := [.c (.int .i64), .c (.int .i64)]
def rs26q : RS := .c (.bool)
def pk26q : Bool → RL rs26q.cells := fun x => (x, ())
def up26q : RL rs26q.cells → Bool := fun d => d.1
def s26q (k : Nat) (d : AD as26q) := fits_over k d.1 d.2.1
def R26q : Nat × Entry := (111, fun k nm args h => entry as26q rs26q (s26q k) pk26q nm args h)
theorem ev26q (k : Nat) (d : AD as26q) : evF E26q A26q k 1000 0 Proofs.Try.f111 (absArgs as26q d).1 (absArgs as26q d).2 (outM rs26q up26q) = s26q k d := by
  obtain ⟨_, _, _⟩ := d
  kernel_rfl
theorem F26q : FnOK Proofs.Try.prog R26q := fn_b (E := E26q) (A := A26q) (na := 0) (fn := Proofs.Try.f111) (S := s26q) (unpack := up26q) B26q (by kernel_rfl) (loopsOK_none (by kernel_rfl)) (by kernel_rfl) (by kernel_rfl) (fun _ => rfl) ev26q

/-! ### giro/acct.Kept -/
noncomputable def E27q : Env := ⟨Proofs.Try.prog, fun _ => false, sumsOf []⟩
def A27q : Notes := ⟨[], []⟩
theorem B27q : EnvB E27q := env_n mixed_orders trivial
def as27q : List AS := [.agg [.int .i64, .int .i64, .int .i64], .c (.int .i64)]
def rs27q : RS := .c (.int .i64)
def pk27q : Int → RL rs27q.cells := fun x => (x, ())
def up27q : RL rs27q.cells → Int := fun d => d.1
def s27q (k : Nat) (d : AD as27q) := acct_Kept k d.1 d.2.1 d.2.2.1 d.2.2.2.1
def R27q : Nat × Entry := (97, fun k nm args h => entry as27q rs27q (s27q k) pk27q nm args h)
theorem ev27q (k : Nat) (d : AD as27q) : evF E27q A27q k 1000 0 Proofs.Try.f97 (absArgs as27q d).1 (absArgs as27q d).2 (outM rs27q up27q) = s27q k d := by
  obtain ⟨_, _, _, _, _⟩ := d
  kernel_rfl
theorem F27q : FnOK Proofs.Try.prog R27q := fn_b (E := E27q) (A := A27q) (na := 0) (fn := Proofs.Try.f97) (S := s27q) (unpack := up27q) B27q (by kernel_rfl) (loopsOK_none (by kernel_rfl)) (by kernel_rfl) (by kernel_rfl) (fun _ => rfl) ev27q

/-! ### (giro/fits.move).isShort$1 -/
noncomputable def E28q : Env := ⟨Proofs.Try.prog, fun _ => false, sumsOf [R27q, R26q]⟩
def A28q : Notes := ⟨[], []⟩
theorem B28q : EnvB E28q := env_n mixed_orders ⟨F27q, F26q, trivial⟩
def as28q : List AS := [.agg [.int .i64, .int .i64, .int .i64, .int .i64, .int .i64, .int .i64, .int .i64], .ptr [.int .i64], .ptr [.int .i64, .int .i64, .int .i64], .ptr [.dat false (.int .i64), .dat false (.int .i64), .dat false (.sl (.int .i64))], .ptr [.int .i64], .ptr [.dat false y5q, .dat false (.sl (.int .i64)), .dat false (.int .i64), .dat false (.sl (.int .i64))]]
def rs28q : RS := .c (.bool)
def pk28q : Bool → RL rs28q.cells := fun x => (x, ())
def up28q : RL rs28q.cells → Bool := fun d => d.1
def s28q (k : Nat) (d : AD as28q) := fits_move_isShort_fn1 k d.1 d.2.1 d.2.2.1 d.2.2.2.1 d.2.2.2.2.1 d.2.2.2.2.2.1 d.2.2.2.2.2.2.1 d.2.2.2.2.2.2.2.1 d.2.2.2.2.2.2.2.2.1 d.2.2.2.2.2.2.2.2.2.1 d.2.2.2.2.2.2.2.2.2.2.1 d.2.2.2.2.2.2.2.2.2.2.2.1 d.2.2.2.2.2.2.2.2.2.2.2.2.1 d.2.2.2.2.2.2.2.2.2.2.2.2.2.1 d.2.2.2.2.2.2.2.2.2.2.2.2.2.2.1 d.2.2.2.2.2.2.2.2.2.2.2.2.2.2.2.1 d.2.2.2.2.2.2.2.2.2.2.2.2.2.2.2.2.1 d.2.2.2.2.2.2.2.2.2.2.2.2.2.2.2.2.2.1 d.2.2.2.2.2.2.2.2.2.2.2.2.2.2.2.2.2.2.1
def R28q : Nat × Entry := (112, fun k nm args h => entry as28q rs28q (s28q k) pk28q nm args h)
theorem ev28q (k : Nat) (d : AD as28q) : evF E28q A28q k 1000 0 Proofs.Try.f112 (absArgs as28q d).1 (absArgs as28q d).2 (outM rs28q up28q) = s28q k d := by
  obtain ⟨_, _, _, _, _, _, _, _, _, _, _, _, _, _, _, _, _, _, _, _⟩ := d
  kernel_rfl
theorem F28q : FnOK Proofs.Try.prog R28q := fn_b (E := E28q) (A := A28q) (na := 0) (fn := Proofs.Try.f112) (S := s28q) (unpack := up28q) B28q (by kernel_rfl) (loopsOK_none (by kernel_rfl)) (by kernel_rfl) (by kernel_rfl) (fun _ => rfl) ev28q

/-! ### slices.IndexFunc[[]giro/api.Pay,giro/api.Pay] -/
noncomputable def E29q : Env := ⟨Proofs.Try.prog, fun _ => false, sumsOf [R28q]⟩
def I29_0q : Spec := ⟨[(0, .c (.dat false y9q)), (1, .c (.lit (.fn 112 [1001000, 1001001, 1001002, 1001003, 1001004]))), (7, .c (.int .i64)), (8, .c (.int .i64))], [.robox [.int .i64], .robox [.int .i64, .int .i64, .int .i64], .robox [.dat false (.int .i64), .dat false (.int .i64), .dat false (.sl (.int .i64))], .robox [.int .i64], .robox [.dat false y5q, .dat false (.sl (.int .i64)), .dat false (.int .i64), .dat false (.sl (.int .i64))]], []⟩
def X0_29_0q : Spec := ⟨[], [], []⟩
def X1_29_0q : Spec := ⟨[(4, .c (.int .i64))], [], []⟩
def O29_0q : List (Ex × Spec) := [(.exit 0, X0_29_0q), (.ret, X1_29_0q)]
def c29_0q (f : slices_IndexFunc_Pay__fits_move_isShort_fn1_L0T) (d : I29_0q.den) : Option (Unit ⊕ Int) := f d.1.1.1 d.1.2.2.1.1 d.1.2.2.2.1.1 d.2.1.1 d.2.2.1.1 d.2.2.1.2.1 d.2.2.1.2.2.1 d.2.2.2.1.1 d.2.2.2.1.2.1 d.2.2.2.1.2.2.1 d.2.2.2.2.1.1 d.2.2.2.2.2.1.1 d.2.2.2.2.2.1.2.1 d.2.2.2.2.2.1.2.2.1 d.2.2.2.2.2.1.2.2.2.1
def T29_0q : OutD O29_0q → (Unit ⊕ Int)
 | .inl d => .inl ()
 | .inr d => .inr d.1.1.1
def e29_0q (base : Nat) (x : (Unit ⊕ Int)) (R : Type) (K : Ex → St → Option R) : Option R := match x with
 | .inl x => K (.exit 0) (stOf base X0_29_0q ((), ()))
 | .inr x => K .ret (stOf base X1_29_0q (((x, ()), ()), ()))
def L29_0q : LoopSum := ⟨I29_0q, O29_0q, (Unit ⊕ Int), fun k d => c29_0q (slices_IndexFunc_Pay__fits_move_isShort_fn1_L0 k k) d, e29_0q⟩
def A29q : Notes := ⟨[], [(2, L29_0q)]⟩
theorem B29q : EnvB E29q := env_n mixed_orders ⟨F28q, trivial⟩
theorem st29_0q (k : Nat) (rec : slices_IndexFunc_Pay__fits_move_isShort_fn1_L0T) (d : I29_0q.den) : c29_0q (slices_IndexFunc_Pay__fits_move_isShort_fn1_L0b k rec) d = evC E29q A29q k 1000 0 19 (loopAt (bodyOf Proofs.Try.f109) 0) (stOf (1000 + loopBase) I29_0q d) (roundK 1000 I29_0q O29_0q T29_0q (c29_0q rec)) := by
  obtain ⟨⟨⟨_, _⟩, _, ⟨_, _⟩, ⟨_, _⟩, _⟩, ⟨⟨_, _⟩, ⟨_, _, _, _⟩, ⟨_, _, _, _⟩, ⟨_, _⟩, ⟨_, _, _, _, _⟩, _⟩⟩ := d
  kernel_rfl
theorem lk29_0q : LoopOK Proofs.Try.prog 1000 0 19 (loopAt (bodyOf Proofs.Try.f109) 0) L29_0q :=
  loop_b (A := A29q) (inS := I29_0q) (outs := O29_0q) B29q (loopsOK_none (by kernel_rfl)) T29_0q e29_0q (by intro o R K; rcases o with o | o <;> rfl) (fun k n d => c29_0q (slices_IndexFunc_Pay__fits_move_isShort_fn1_L0 k n) d) (fun _ _ => rfl) (fun k n d => st29_0q k (slices_IndexFunc_Pay__fits_move_isShort_fn1_L0 k n) d)
def as29q : List AS := [.c (.dat false y9q), .fn 112 [[.int .i64], [.int .i64, .int .i64, .int .i64], [.dat false (.int .i64), .dat false (.int .i64), .dat false (.sl (.int .i64))], [.int .i64], [.dat false y5q, .dat false (.sl (.int .i64)), .dat false (.int .i64), .dat false (.sl (.int .i64))]]]
def rs29q : RS := .c (.int .i64)
def pk29q : Int → RL rs29q.cells := fun x => (x, ())
def up29q : RL rs29q.cells → Int := fun d => d.1
def s29q (k : Nat) (d : AD as29q) := slices_IndexFunc_Pay__fits_move_isShort_fn1 k d.1 d.2.1 d.2.2.1 d.2.2.2.1 d.2.2.2.2.1 d.2.2.2.2.2.1 d.2.2.2.2.2.2.1 d.2.2.2.2.2.2.2.1 d.2.2.2.2.2.2.2.2.1 d.2.2.2.2.2.2.2.2.2.1 d.2.2.2.2.2.2.2.2.2.2.1 d.2.2.2.2.2.2.2.2.2.2.2.1 d.2.2.2.2.2.2.2.2.2.2.2.2.1
def R29q : Nat × Entry := (109, fun k nm args h => entry as29q rs29q (s29q k) pk29q nm args h)
theorem ev29q (k : Nat) (d : AD as29q) : evF E29q A29q k 1000 0 Proofs.Try.f109 (absArgs as29q d).1 (absArgs as29q d).2 (outM rs29q up29q) = s29q k d := by
  obtain ⟨_, _, _, _, _, _, _, _, _, _, _, _, _, _⟩ := d
  kernel_rfl
theorem F29q : FnOK Proofs.Try.prog R29q := fn_b (E := E29q) (A := A29q) (na := 0) (fn := Proofs.Try.f109) (S := s29q) (unpack := up29q) B29q (by kernel_rfl) (loopsOK_of (n := 1) (by kernel_rfl) fun i hi => match i, hi with | 0, _ => ⟨L29_0q, by kernel_rfl, lk29_0q⟩ | i + 1, hi => absurd hi (by omega)) (by kernel_rfl) (by kernel_rfl) (fun _ => rfl) ev29q

/-! ### slices.ContainsFunc[[]giro/api.Pay,giro/api.Pay] -/
noncomputable def E30q : Env := ⟨Proofs.Try.prog, fun _ => false, sumsOf [R29q]⟩
def A30q : Notes := ⟨[], []⟩
theorem B30q : EnvB E30q := env_n mixed_orders ⟨F29q, trivial⟩
def as30q : List AS := [.c (.dat false y9q), .fn 112 [[.int .i64], [.int .i64, .int .i64, .int .i64], [.dat false (.int .i64), .dat false (.int .i64), .dat false (.sl (.int .i64))], [.int .i64], [.dat false y5q, .dat false (.sl (.int .i64)), .dat false (.int .i64), .dat false (.sl (.int .i64))]]]
def rs30q : RS := .c (.bool)
def pk30q : Bool → RL rs30q.cells := fun x => (x, ())
def up30q : RL rs30q.cells → Bool := fun d => d.1
def s30q (k : Nat) (d : AD as30q) := slices_ContainsFunc_Pay__fits_move_isShort_fn1 k d.1 d.2.1 d.2.2.1 d.2.2.2.1 d.2.2.2.2.1 d.2.2.2.2.2.1 d.2.2.2.2.2.2.1 d.2.2.2.2.2.2.2.1 d.2.2.2.2.2.2.2.2.1 d.2.2.2.2.2.2.2.2.2.1 d.2.2.2.2.2.2.2.2.2.2.1 d.2.2.2.2.2.2.2.2.2.2.2.1 d.2.2.2.2.2.2.2.2.2.2.2.2.1
def R30q : Nat × Entry := (88, fun k nm args h => entry as30q rs30q (s30q k) pk30q nm args h)
theorem ev30q (k : Nat) (d : AD as30q) : evF E30q A30q k 1000 0 Proofs.Try.f88 (absArgs as30q d).1 (absArgs as30q d).2 (outM rs30q up30q) = s30q k d := by
  obtain ⟨_, _, _, _, _, _, _, _, _, _, _, _, _, _⟩ := d
  kernel_rfl
theorem F30q : FnOK Proofs.Try.prog R30q := fn_b (E := E30q) (A := A30q) (na := 0) (fn := Proofs.Try.f88) (S := s30q) (unpack := up30q) B30q (by kernel_rfl) (loopsOK_none (by kernel_rfl)) (by kernel_rfl) (by kernel_rfl) (fun _ => rfl) ev30q

/-! ### (giro/fits.move).isShort -/
noncomputable def E31q : Env := ⟨Proofs.Try.prog, fun _ => false, sumsOf [R25q, R26q, R30q]⟩
def I31_0q : Spec := ⟨[(3, .c (.dat false y9q)), (4, .c (.lit (.ptr 1001000 0))), (5, .c (.lit (.ptr 1001001 0))), (6, .c (.lit (.ptr 1001002 0))), (9, .c (.lit (.ptr 1001003 0))), (10, .c (.lit (.ptr 1001004 0))), (11, .c (.int .i64)), (39, .c (.dat false (.int .i64))), (40, .c (.int .i64)), (41, .c (.int .i64))], [.box true [.dat false (.int .i64), .dat false (.int .i64), .dat false (.sl (.int .i64))], .box true [.dat false y5q, .dat false (.sl (.int .i64)), .dat false (.int .i64), .dat false (.sl (.int .i64))], .box true [.int .i64], .box true [.int .i64, .int .i64, .int .i64], .box true [.int .i64]], []⟩
def X0_31_0q : Spec := ⟨[(3, .c (.dat false y9q)), (4, .c (.lit (.ptr 1001000 0))), (5, .c (.lit (.ptr 1001001 0))), (6, .c (.lit (.ptr 1001002 0))), (9, .c (.lit (.ptr 1001003 0))), (10, .c (.lit (.ptr 1001004 0))), (11, .c (.int .i64))], [.box true [.dat false (.int .i64), .dat false (.int .i64), .dat false (.sl (.int .i64))], .box true [.dat false y5q, .dat false (.sl (.int .i64)), .dat false (.int .i64), .dat false (.sl (.int .i64))], .box true [.int .i64], .box true [.int .i64, .int .i64, .int .i64], .box true [.int .i64]], []⟩
def O31_0q : List (Ex × Spec) := [(.exit 0, X0_31_0q)]
def c31_0q (f : fits_move_isShort_L0T) (d : I31_0q.den) : Option fits_move_isShort_L0X := f d.1.1.1 d.1.2.2.2.2.2.2.1.1 d.1.2.2.2.2.2.2.2.1.1 d.1.2.2.2.2.2.2.2.2.1.1 d.1.2.2.2.2.2.2.2.2.2.1.1 d.2.1.1 d.2.1.2.1 d.2.1.2.2.1 d.2.2.1.1 d.2.2.1.2.1 d.2.2.1.2.2.1 d.2.2.1.2.2.2.1 d.2.2.2.1.1 d.2.2.2.2.1.1 d.2.2.2.2.1.2.1 d.2.2.2.2.1.2.2.1 d.2.2.2.2.2.1.1
def T31_0q : OutD O31_0q → fits_move_isShort_L0X := fun d => (d.1.1.1, d.1.2.2.2.2.2.2.1.1, d.2.1.1, d.2.1.2.1, d.2.1.2.2.1, d.2.2.1.1, d.2.2.1.2.1, d.2.2.1.2.2.1, d.2.2.1.2.2.2.1, d.2.2.2.1.1, d.2.2.2.2.1.1, d.2.2.2.2.1.2.1, d.2.2.2.2.1.2.2.1, d.2.2.2.2.2.1.1)
def e31_0q (base : Nat) (x : fits_move_isShort_L0X) (R : Type) (K : Ex → St → Option R) : Option R := K (.exit 0) (stOf base X0_31_0q (((x.1, ()), (), (), (), (), (), (x.2.1, ()), ()), ((x.2.2.1, x.2.2.2.1, x.2.2.2.2.1, ()), (x.2.2.2.2.2.1, x.2.2.2.2.2.2.1, x.2.2.2.2.2.2.2.1, x.2.2.2.2.2.2.2.2.1, ()), (x.2.2.2.2.2.2.2.2.2.1, ()), (x.2.2.2.2.2.2.2.2.2.2.1, x.2.2.2.2.2.2.2.2.2.2.2.1, x.2.2.2.2.2.2.2.2.2.2.2.2.1, ()), (x.2.2.2.2.2.2.2.2.2.2.2.2.2, ()), ())))
def L31_0q : LoopSum := ⟨I31_0q, O31_0q, fits_move_isShort_L0X, fun k d => c31_0q (fits_move_isShort_L0 k k) d, e31_0q⟩
def A31q : Notes := ⟨[], [(7, L31_0q)]⟩
theorem B31q : EnvB E31q := env_n mixed_orders ⟨F25q, F26q, F30q, trivial⟩
theorem st31_0q (k : Nat) (rec : fits_move_isShort_L0T) (d : I31_0q.den) : c31_0q (fits_move_isShort_L0b k rec) d = evC E31q A31q k 1000 0 59 (loopAt (bodyOf Proofs.Try.f90) 0) (stOf (1000 + loopBase) I31_0q d) (roundK 1000 I31_0q O31_0q T31_0q (c31_0q rec)) := by
  obtain ⟨⟨⟨_, _⟩, _, _, _, _, _, ⟨_, _⟩, ⟨_, _⟩, ⟨_, _⟩, ⟨_, _⟩, _⟩, ⟨⟨_, _, _, _⟩, ⟨_, _, _, _, _⟩, ⟨_, _⟩, ⟨_, _, _, _⟩, ⟨_, _⟩, _⟩⟩ := d
  kernel_rfl
theorem lk31_0q : LoopOK Proofs.Try.prog 1000 0 59 (loopAt (bodyOf Proofs.Try.f90) 0) L31_0q :=
  loop_b (A := A31q) (inS := I31_0q) (outs := O31_0q) B31q (loopsOK_none (by kernel_rfl)) T31_0q e31_0q (fun _ _ _ => rfl) (fun k n d => c31_0q (fits_move_isShort_L0 k n) d) (fun _ _ => rfl) (fun k n d => st31_0q k (fits_move_isShort_L0 k n) d)
def as31q : List AS := [.agg [.dat false (.int .i64), .dat false (.int .i64), .dat false (.sl (.int .i64))], .agg [.dat false y5q, .dat false (.sl (.int .i64)), .dat false (.int .i64), .dat false (.sl (.int .i64))], .c (.int .i64), .c (.dat false y9q)]
def rs31q : RS := .c (.bool)
def pk31q : Bool → RL rs31q.cells := fun x => (x, ())
def up31q : RL rs31q.cells → Bool := fun d => d.1
def s31q (k : Nat) (d : AD as31q) := fits_move_isShort k d.1 d.2.1 d.2.2.1 d.2.2.2.1 d.2.2.2.2.1 d.2.2.2.2.2.1 d.2.2.2.2.2.2.1 d.2.2.2.2.2.2.2.1 d.2.2.2.2.2.2.2.2.1
def R31q : Nat × Entry := (90, fun k nm args h => entry as31q rs31q (s31q k) pk31q nm args h)
theorem ev31q (k : Nat) (d : AD as31q) : evF E31q A31q k 1000 0 Proofs.Try.f90 (absArgs as31q d).1 (absArgs as31q d).2 (outM rs31q up31q) = s31q k d := by
  obtain ⟨_, _, _, _, _, _, _, _, _, _⟩ := d
  kernel_rfl
theorem F31q : FnOK Proofs.Try.prog R31q := fn_b (E := E31q) (A := A31q) (na := 0) (fn := Proofs.Try.f90) (S := s31q) (unpack := up31q) B31q (by kernel_rfl) (loopsOK_of (n := 1) (by kernel_rfl) fun i hi => match i, hi with | 0, _ => ⟨L31_0q, by kernel_rfl, lk31_0q⟩ | i + 1, hi => absurd hi (by omega)) (by kernel_rfl) (by kernel_rfl) (fun _ => rfl) ev31q

/-! ### giro/fits.Short -/
noncomputable def E32q : Env := ⟨Proofs.Try.prog, fun _ => false, sumsOf [R21q, R24q, R31q]⟩
def I32_0q : Spec := ⟨[(1, .c (.dat false y9q)), (2, .c (.lit (.ptr 1001000 0))), (5, .c (.lit (.ptr 1001001 0))), (6, .c (.lit (.osl 1001005 none))), (16, .c (.int .i64)), (17, .c (.int .i64))], [.box true [.dat false y5q, .dat false (.sl (.int .i64)), .dat false (.int .i64), .dat false (.sl (.int .i64))], .box true [.lit (.osl 1001002 none), .lit (.osl 1001003 none), .lit (.osl 1001004 none)], .arr true (.int .i64), .arr true (.int .i64), .mat, .arr true (.int .i64)], [(6, none, (.int .i64), false)]⟩
def X0_32_0q : Spec := ⟨[(6, .c (.lit (.osl 1001000 none)))], [.arr true (.int .i64)], []⟩
def O32_0q : List (Ex × Spec) := [(.exit 0, X0_32_0q)]
def c32_0q (f : fits_Short_L0T) (d : I32_0q.den) : Option (List Int) := f d.1.1.1 d.1.2.2.2.2.1.1 d.1.2.2.2.2.2.1.1 d.2.1.1 d.2.1.2.1 d.2.1.2.2.1 d.2.1.2.2.2.1 d.2.2.2.1 d.2.2.2.2.1 d.2.2.2.2.2.1 d.2.2.2.2.2.2.1
def T32_0q : OutD O32_0q → (List Int) := fun d => d.2.1
def e32_0q (base : Nat) (x : (List Int)) (R : Type) (K : Ex → St → Option R) : Option R := K (.exit 0) (stOf base X0_32_0q (((), ()), (x, ())))
def L32_0q : LoopSum := ⟨I32_0q, O32_0q, (List Int), fun k d => c32_0q (fits_Short_L0 k k) d, e32_0q⟩
def A32q : Notes := ⟨[], [(4, L32_0q)]⟩
theorem B32q : EnvB E32q := env_n mixed_orders ⟨F21q, F24q, F31q, trivial⟩
theorem st32_0q (k : Nat) (rec : fits_Short_L0T) (d : I32_0q.den) : c32_0q (fits_Short_L0b k rec) d = evC E32q A32q k 1000 0 37 (loopAt (bodyOf Proofs.Try.f50) 0) (stOf (1000 + loopBase) I32_0q d) (roundK 1000 I32_0q O32_0q T32_0q (c32_0q rec)) := by
  obtain ⟨⟨⟨_, _⟩, _, _, _, ⟨_, _⟩, ⟨_, _⟩, _⟩, ⟨⟨_, _, _, _, _⟩, _, _, _, _, _, _⟩⟩ := d
  kernel_rfl
theorem lk32_0q : LoopOK Proofs.Try.prog 1000 0 37 (loopAt (bodyOf Proofs.Try.f50) 0) L32_0q :=
  loop_b (A := A32q) (inS := I32_0q) (outs := O32_0q) B32q (loopsOK_none (by kernel_rfl)) T32_0q e32_0q (fun _ _ _ => rfl) (fun k n d => c32_0q (fits_Short_L0 k n) d) (fun _ _ => rfl) (fun k n d => st32_0q k (fits_Short_L0 k n) d)
def as32q : List AS := [.agg [.dat false y5q, .dat false (.sl (.int .i64)), .dat false (.int .i64), .dat false (.sl (.int .i64))], .c (.dat false y9q)]
def rs32q : RS := .c (.own (.int .i64))
def pk32q : List Int → RL rs32q.cells := fun x => (x, ())
def up32q : RL rs32q.cells → List Int := fun d => d.1
def s32q (k : Nat) (d : AD as32q) := fits_Short k d.1 d.2.1 d.2.2.1 d.2.2.2.1 d.2.2.2.2.1
def R32q : Nat × Entry := (50, fun k nm args h => entry as32q rs32q (s32q k) pk32q nm args h)
theorem ev32q (k : Nat) (d : AD as32q) : evF E32q A32q k 1000 0 Proofs.Try.f50 (absArgs as32q d).1 (absArgs as32q d).2 (outM rs32q up32q) = s32q k d := by
  obtain ⟨_, _, _, _, _, _⟩ := d
  kernel_rfl
theorem F32q : FnOK Proofs.Try.prog R32q := fn_b (E := E32q) (A := A32q) (na := 0) (fn := Proofs.Try.f50) (S := s32q) (unpack := up32q) B32q (by kernel_rfl) (loopsOK_of (n := 1) (by kernel_rfl) fun i hi => match i, hi with | 0, _ => ⟨L32_0q, by kernel_rfl, lk32_0q⟩ | i + 1, hi => absurd hi (by omega)) (by kernel_rfl) (by kernel_rfl) (fun _ => rfl) ev32q

/-! ### giro/knot.Most -/
noncomputable def E33q : Env := ⟨Proofs.Try.prog, fun _ => false, sumsOf [R10q, R13q, R17q, R32q]⟩
def I33_0q : Spec := ⟨[(3, .c (.lit (.ptr 1001000 0))), (6, .c (.lit (.osl 1001001 none))), (7, .c (.int .i64)), (8, .c (.lit (.osl 1001002 none))), (18, .c (.int .i64)), (19, .c (.int .i64))], [.box true [.dat false y5q, .dat false (.sl (.int .i64)), .dat false (.int .i64), .dat false (.sl (.int .i64))], .arr true (.int .i64), .arr true y9q], [(6, none, (.int .i64), false)]⟩
def X0_33_0q : Spec := ⟨[(3, .c (.lit (.ptr 1001000 0))), (6, .c (.lit (.osl 1001001 none))), (7, .c (.int .i64)), (8, .c (.lit (.osl 1001002 none)))], [.box true [.dat false y5q, .dat false (.sl (.int .i64)), .dat false (.int .i64), .dat false (.sl (.int .i64))], .arr true (.int .i64), .arr true y9q], []⟩
def O33_0q : List (Ex × Spec) := [(.exit 0, X0_33_0q)]
def c33_0q (f : knot_Most_L0T) (d : I33_0q.den) : Option knot_Most_L0X := f d.1.2.2.1.1 d.1.2.2.2.2.1.1 d.1.2.2.2.2.2.1.1 d.2.1.1 d.2.1.2.1 d.2.1.2.2.1 d.2.1.2.2.2.1 d.2.2.1 d.2.2.2.1
def T33_0q : OutD O33_0q → knot_Most_L0X := fun d => (d.1.2.2.1.1, d.2.1.1, d.2.1.2.1, d.2.1.2.2.1, d.2.1.2.2.2.1, d.2.2.1, d.2.2.2.1)
def e33_0q (base : Nat) (x : knot_Most_L0X) (R : Type) (K : Ex → St → Option R) : Option R := K (.exit 0) (stOf base X0_33_0q (((), (), (x.1, ()), (), ()), ((x.2.1, x.2.2.1, x.2.2.2.1, x.2.2.2.2.1, ()), x.2.2.2.2.2.1, x.2.2.2.2.2.2, ())))
def L33_0q : LoopSum := ⟨I33_0q, O33_0q, knot_Most_L0X, fun k d => c33_0q (knot_Most_L0 k k) d, e33_0q⟩
def I33_1q : Spec := ⟨[(3, .c (.lit (.ptr 1001000 0))), (6, .c (.lit (.osl 1001001 none))), (7, .c (.int .i64)), (8, .c (.lit (.osl 1001002 none))), (42, .c (.lit (.osl 1001003 none))), (43, .c (.int .i64)), (44, .c (.int .i64))], [.box true [.dat false y5q, .dat false (.sl (.int .i64)), .dat false (.int .i64), .dat false (.sl (.int .i64))], .arr true (.int .i64), .arr true y9q, .arr true (.int .i64)], []⟩
def X0_33_1q : Spec := ⟨[(3, .c (.lit (.ptr 1001000 0))), (6, .c (.lit (.osl 1001001 none))), (7, .c (.int .i64)), (8, .c (.lit (.osl 1001002 none)))], [.box true [.dat false y5q, .dat false (.sl (.int .i64)), .dat false (.int .i64), .dat false (.sl (.int .i64))], .arr true (.int .i64), .arr true y9q], []⟩
def O33_1q : List (Ex × Spec) := [(.exit 4, X0_33_1q)]
def c33_1q (f : knot_Most_L2T) (d : I33_1q.den) : Option knot_Most_L2X := f d.1.2.2.1.1 d.1.2.2.2.2.2.1.1 d.1.2.2.2.2.2.2.1.1 d.2.1.1 d.2.1.2.1 d.2.1.2.2.1 d.2.1.2.2.2.1 d.2.2.1 d.2.2.2.1 d.2.2.2.2.1
def T33_1q : OutD O33_1q → knot_Most_L2X := fun d => (d.1.2.2.1.1, d.2.1.1, d.2.1.2.1, d.2.1.2.2.1, d.2.1.2.2.2.1, d.2.2.1, d.2.2.2.1)
def e33_1q (base : Nat) (x : knot_Most_L2X) (R : Type) (K : Ex → St → Option R) : Option R := K (.exit 4) (stOf base X0_33_1q (((), (), (x.1, ()), (), ()), ((x.2.1, x.2.2.1, x.2.2.2.1, x.2.2.2.2.1, ()), x.2.2.2.2.2.1, x.2.2.2.2.2.2, ())))
def L33_1q : LoopSum := ⟨I33_1q, O33_1q, knot_Most_L2X, fun k d => c33_1q (knot_Most_L2 k k) d, e33_1q⟩
def I33_2q : Spec := ⟨[(3, .c (.lit (.ptr 1001000 0))), (6, .c (.lit (.osl 1001001 none))), (7, .c (.int .i64)), (8, .c (.lit (.osl 1001002 none)))], [.box true [.dat false y5q, .dat false (.sl (.int .i64)), .dat false (.int .i64), .dat false (.sl (.int .i64))], .arr true (.int .i64), .arr true y9q], []⟩
def X0_33_2q : Spec := ⟨[(6, .c (.lit (.osl 1001000 none))), (7, .c (.int .i64))], [.arr true (.int .i64)], []⟩
def O33_2q : List (Ex × Spec) := [(.ret, X0_33_2q)]
def c33_2q (f : knot_Most_L1T) (d : I33_2q.den) : Option (Int × (List Int)) := f d.1.2.2.1.1 d.2.1.1 d.2.1.2.1 d.2.1.2.2.1 d.2.1.2.2.2.1 d.2.2.1 d.2.2.2.1
def T33_2q : OutD O33_2q → (Int × (List Int)) := fun d => (d.1.2.1.1, d.2.1)
def e33_2q (base : Nat) (x : (Int × (List Int))) (R : Type) (K : Ex → St → Option R) : Option R := K .ret (stOf base X0_33_2q (((), (x.1, ()), ()), (x.2, ())))
def L33_2q : LoopSum := ⟨I33_2q, O33_2q, (Int × (List Int)), fun k d => c33_2q (knot_Most_L1 k k) d, e33_2q⟩
def A33q : Notes := ⟨[], [(3, L33_0q), (12, L33_1q), (7, L33_2q)]⟩
theorem B33q : EnvB E33q := env_n mixed_orders ⟨F10q, F13q, F17q, F32q, trivial⟩
theorem st33_0q (k : Nat) (rec : knot_Most_L0T) (d : I33_0q.den) : c33_0q (knot_Most_L0b k rec) d = evC E33q A33q k 1000 0 55 (loopAt (bodyOf Proofs.Try.f15) 0) (stOf (1000 + loopBase) I33_0q d) (roundK 1000 I33_0q O33_0q T33_0q (c33_0q rec)) := by
  obtain ⟨⟨_, _, ⟨_, _⟩, _, ⟨_, _⟩, ⟨_, _⟩, _⟩, ⟨⟨_, _, _, _, _⟩, _, _, _⟩⟩ := d
  kernel_rfl
theorem lk33_0q : LoopOK Proofs.Try.prog 1000 0 55 (loopAt (bodyOf Proofs.Try.f15) 0) L33_0q :=
  loop_b (A := A33q) (inS := I33_0q) (outs := O33_0q) B33q (loopsOK_none (by kernel_rfl)) T33_0q e33_0q (fun _ _ _ => rfl) (fun k n d => c33_0q (knot_Most_L0 k n) d) (fun _ _ => rfl) (fun k n d => st33_0q k (knot_Most_L0 k n) d)
theorem st33_1q (k : Nat) (rec : knot_Most_L2T) (d : I33_1q.den) : c33_1q (knot_Most_L2b k rec) d = evC E33q A33q k 1000 0 55 (loopAt (loopAt (bodyOf Proofs.Try.f15) 1) 0) (stOf (1000 + loopBase) I33_1q d) (roundK 1000 I33_1q O33_1q T33_1q (c33_1q rec)) := by
  obtain ⟨⟨_, _, ⟨_, _⟩, _, _, ⟨_, _⟩, ⟨_, _⟩, _⟩, ⟨⟨_, _, _, _, _⟩, _, _, _, _⟩⟩ := d
  kernel_rfl
theorem lk33_1q : LoopOK Proofs.Try.prog 1000 0 55 (loopAt (loopAt (bodyOf Proofs.Try.f15) 1) 0) L33_1q :=
  loop_b (A := A33q) (inS := I33_1q) (outs := O33_1q) B33q (loopsOK_none (by kernel_rfl)) T33_1q e33_1q (fun _ _ _ => rfl) (fun k n d => c33_1q (knot_Most_L2 k n) d) (fun _ _ => rfl) (fun k n d => st33_1q k (knot_Most_L2 k n) d)
theorem st33_2q (k : Nat) (rec : knot_Most_L1T) (d : I33_2q.den) : c33_2q (knot_Most_L1b k rec) d = evC E33q A33q k 1000 0 55 (loopAt (bodyOf Proofs.Try.f15) 1) (stOf (1000 + loopBase) I33_2q d) (roundK 1000 I33_2q O33_2q T33_2q (c33_2q rec)) := by
  obtain ⟨⟨_, _, ⟨_, _⟩, _, _⟩, ⟨⟨_, _, _, _, _⟩, _, _, _⟩⟩ := d
  kernel_rfl
theorem lk33_2q : LoopOK Proofs.Try.prog 1000 0 55 (loopAt (bodyOf Proofs.Try.f15) 1) L33_2q :=
  loop_b (A := A33q) (inS := I33_2q) (outs := O33_2q) B33q (loopsOK_of (n := 1) (by kernel_rfl) fun i hi => match i, hi with | 0, _ => ⟨L33_1q, by kernel_rfl, lk33_1q⟩ | i + 1, hi => absurd hi (by omega)) T33_2q e33_2q (fun _ _ _ => rfl) (fun k n d => c33_2q (knot_Most_L1 k n) d) (fun _ _ => rfl) (fun k n d => st33_2q k (knot_Most_L1 k n) d)
def as33q : List AS := [.agg [.dat false y5q, .dat false (.sl (.int .i64)), .dat false (.int .i64), .dat false (.sl (.int .i64))], .c (.dat false y9q), .c (.int .i64)]
def rs33q : RS := .tup [(false, [.own (.int .i64)]), (false, [.int .i64])]
def pk33q : (List Int) × Int → RL rs33q.cells := fun x => (x.1, x.2, ())
def up33q : RL rs33q.cells → (List Int) × Int := fun d => (d.1, d.2.1)
def s33q (k : Nat) (d : AD as33q) := knot_Most k d.1 d.2.1 d.2.2.1 d.2.2.2.1 d.2.2.2.2.1 d.2.2.2.2.2.1
def R33q : Nat × Entry := (15, fun k nm args h => entry as33q rs33q (s33q k) pk33q nm args h)
theorem ev33q (k : Nat) (d : AD as33q) : evF E33q A33q k 1000 0 Proofs.Try.f15 (absArgs as33q d).1 (absArgs as33q d).2 (outM rs33q up33q) = s33q k d := by
  obtain ⟨_, _, _, _, _, _, _⟩ := d
  kernel_rfl
theorem F33q : FnOK Proofs.Try.prog R33q := fn_b (E := E33q) (A := A33q) (na := 0) (fn := Proofs.Try.f15) (S := s33q) (unpack := up33q) B33q (by kernel_rfl) (loopsOK_of (n := 2) (by kernel_rfl) fun i hi => match i, hi with | 0, _ => ⟨L33_0q, by kernel_rfl, lk33_0q⟩ | 1, _ => ⟨L33_2q, by kernel_rfl, lk33_2q⟩ | i + 2, hi => absurd hi (by omega)) (by kernel_rfl) (by kernel_rfl) (fun _ => rfl) ev33q

/-! ### giro/fits.May -/
noncomputable def E45q : Env := ⟨Proofs.Try.prog, fun _ => false, sumsOf []⟩
def A45q : Notes := ⟨[], []⟩
theorem B45q : EnvB E45q := env_n mixed_orders trivial
def as45q : List AS := [.agg [.dat false y5q, .dat false (.sl (.int .i64)), .dat false (.int .i64), .dat false (.sl (.int .i64))], .agg [.int .i64, .int .i64, .int .i64, .int .i64, .int .i64, .int .i64, .int .i64]]
def rs45q : RS := .c (.bool)
def pk45q : Bool → RL rs45q.cells := fun x => (x, ())
def up45q : RL rs45q.cells → Bool := fun d => d.1
def s45q (k : Nat) (d : AD as45q) := fits_May k d.1 d.2.1 d.2.2.1 d.2.2.2.1 d.2.2.2.2.1 d.2.2.2.2.2.1 d.2.2.2.2.2.2.1 d.2.2.2.2.2.2.2.1 d.2.2.2.2.2.2.2.2.1 d.2.2.2.2.2.2.2.2.2.1 d.2.2.2.2.2.2.2.2.2.2.1
def R45q : Nat × Entry := (95, fun k nm args h => entry as45q rs45q (s45q k) pk45q nm args h)
theorem ev45q (k : Nat) (d : AD as45q) : evF E45q A45q k 1000 0 Proofs.Try.f95 (absArgs as45q d).1 (absArgs as45q d).2 (outM rs45q up45q) = s45q k d := by
  obtain ⟨_, _, _, _, _, _, _, _, _, _, _, _⟩ := d
  kernel_rfl
theorem F45q : FnOK Proofs.Try.prog R45q := fn_b (E := E45q) (A := A45q) (na := 0) (fn := Proofs.Try.f95) (S := s45q) (unpack := up45q) B45q (by kernel_rfl) (loopsOK_none (by kernel_rfl)) (by kernel_rfl) (by kernel_rfl) (fun _ => rfl) ev45q

/-! ### giro/post.Post$1 -/
noncomputable def E46q : Env := ⟨Proofs.Try.prog, fun _ => false, sumsOf [R45q]⟩
def A46q : Notes := ⟨[], []⟩
theorem B46q : EnvB E46q := env_n mixed_orders ⟨F45q, trivial⟩
def as46q : List AS := [.agg [.int .i64, .int .i64, .int .i64, .int .i64, .int .i64, .int .i64, .int .i64], .ptr [.dat false y5q, .dat false (.sl (.int .i64)), .dat false (.int .i64), .dat false (.sl (.int .i64))]]
def rs46q : RS := .c (.bool)
def pk46q : Bool → RL rs46q.cells := fun x => (x, ())
def up46q : RL rs46q.cells → Bool := fun d => d.1
def s46q (k : Nat) (d : AD as46q) := post_Post_fn1 k d.1 d.2.1 d.2.2.1 d.2.2.2.1 d.2.2.2.2.1 d.2.2.2.2.2.1 d.2.2.2.2.2.2.1 d.2.2.2.2.2.2.2.1 d.2.2.2.2.2.2.2.2.1 d.2.2.2.2.2.2.2.2.2.1 d.2.2.2.2.2.2.2.2.2.2.1
def R46q : Nat × Entry := (94, fun k nm args h => entry as46q rs46q (s46q k) pk46q nm args h)
theorem ev46q (k : Nat) (d : AD as46q) : evF E46q A46q k 1000 0 Proofs.Try.f94 (absArgs as46q d).1 (absArgs as46q d).2 (outM rs46q up46q) = s46q k d := by
  obtain ⟨_, _, _, _, _, _, _, _, _, _, _, _⟩ := d
  kernel_rfl
theorem F46q : FnOK Proofs.Try.prog R46q := fn_b (E := E46q) (A := A46q) (na := 0) (fn := Proofs.Try.f94) (S := s46q) (unpack := up46q) B46q (by kernel_rfl) (loopsOK_none (by kernel_rfl)) (by kernel_rfl) (by kernel_rfl) (fun _ => rfl) ev46q

/-! ### slices.IndexFunc[[]giro/api.Pay,giro/api.Pay] -/
noncomputable def E47q : Env := ⟨Proofs.Try.prog, fun _ => false, sumsOf [R46q]⟩
def I47_0q : Spec := ⟨[(0, .c (.dat false y9q)), (1, .c (.lit (.fn 94 [1001000]))), (7, .c (.int .i64)), (8, .c (.int .i64))], [.robox [.dat false y5q, .dat false (.sl (.int .i64)), .dat false (.int .i64), .dat false (.sl (.int .i64))]], []⟩
def X0_47_0q : Spec := ⟨[], [], []⟩
def X1_47_0q : Spec := ⟨[(4, .c (.int .i64))], [], []⟩
def O47_0q : List (Ex × Spec) := [(.exit 0, X0_47_0q), (.ret, X1_47_0q)]
def c47_0q (f : slices_IndexFunc_Pay__post_Post_fn1_L0T) (d : I47_0q.den) : Option (Unit ⊕ Int) := f d.1.1.1 d.1.2.2.1.1 d.1.2.2.2.1.1 d.2.1.1 d.2.1.2.1 d.2.1.2.2.1 d.2.1.2.2.2.1
def T47_0q : OutD O47_0q → (Unit ⊕ Int)
 | .inl d => .inl ()
 | .inr d => .inr d.1.1.1
def e47_0q (base : Nat) (x : (Unit ⊕ Int)) (R : Type) (K : Ex → St → Option R) : Option R := match x with
 | .inl x => K (.exit 0) (stOf base X0_47_0q ((), ()))
 | .inr x => K .ret (stOf base X1_47_0q (((x, ()), ()), ()))
def L47_0q : LoopSum := ⟨I47_0q, O47_0q, (Unit ⊕ Int), fun k d => c47_0q (slices_IndexFunc_Pay__post_Post_fn1_L0 k k) d, e47_0q⟩
def A47q : Notes := ⟨[], [(2, L47_0q)]⟩
theorem B47q : EnvB E47q := env_n mixed_orders ⟨F46q, trivial⟩
theorem st47_0q (k : Nat) (rec : slices_IndexFunc_Pay__post_Post_fn1_L0T) (d : I47_0q.den) : c47_0q (slices_IndexFunc_Pay__post_Post_fn1_L0b k rec) d = evC E47q A47q k 1000 0 19 (loopAt (bodyOf Proofs.Try.f109) 0) (stOf (1000 + loopBase) I47_0q d) (roundK 1000 I47_0q O47_0q T47_0q (c47_0q rec)) := by
  obtain ⟨⟨⟨_, _⟩, _, ⟨_, _⟩, ⟨_, _⟩, _⟩, ⟨⟨_, _, _, _, _⟩, _⟩⟩ := d
  kernel_rfl
theorem lk47_0q : LoopOK Proofs.Try.prog 1000 0 19 (loopAt (bodyOf Proofs.Try.f109) 0) L47_0q :=
  loop_b (A := A47q) (inS := I47_0q) (outs := O47_0q) B47q (loopsOK_none (by kernel_rfl)) T47_0q e47_0q (by intro o R K; rcases o with o | o <;> rfl) (fun k n d => c47_0q (slices_IndexFunc_Pay__post_Post_fn1_L0 k n) d) (fun _ _ => rfl) (fun k n d => st47_0q k (slices_IndexFunc_Pay__post_Post_fn1_L0 k n) d)
def as47q : List AS := [.c (.dat false y9q), .fn 94 [[.dat false y5q, .dat false (.sl (.int .i64)), .dat false (.int .i64), .dat false (.sl (.int .i64))]]]
def rs47q : RS := .c (.int .i64)
def pk47q : Int → RL rs47q.cells := fun x => (x, ())
def up47q : RL rs47q.cells → Int := fun d => d.1
def s47q (k : Nat) (d : AD as47q) := slices_IndexFunc_Pay__post_Post_fn1 k d.1 d.2.1 d.2.2.1 d.2.2.2.1 d.2.2.2.2.1
def R47q : Nat × Entry := (109, fun k nm args h => entry as47q rs47q (s47q k) pk47q nm args h)
theorem ev47q (k : Nat) (d : AD as47q) : evF E47q A47q k 1000 0 Proofs.Try.f109 (absArgs as47q d).1 (absArgs as47q d).2 (outM rs47q up47q) = s47q k d := by
  obtain ⟨_, _, _, _, _, _⟩ := d
  kernel_rfl
theorem F47q : FnOK Proofs.Try.prog R47q := fn_b (E := E47q) (A := A47q) (na := 0) (fn := Proofs.Try.f109) (S := s47q) (unpack := up47q) B47q (by kernel_rfl) (loopsOK_of (n := 1) (by kernel_rfl) fun i hi => match i, hi with | 0, _ => ⟨L47_0q, by kernel_rfl, lk47_0q⟩ | i + 1, hi => absurd hi (by omega)) (by kernel_rfl) (by kernel_rfl) (fun _ => rfl) ev47q

/-! ### slices.ContainsFunc[[]giro/api.Pay,giro/api.Pay] -/
noncomputable def E48q : Env := ⟨Proofs.Try.prog, fun _ => false, sumsOf [R47q]⟩
def A48q : Notes := ⟨[], []⟩
theorem B48q : EnvB E48q := env_n mixed_orders ⟨F47q, trivial⟩
def as48q : List AS := [.c (.dat false y9q), .fn 94 [[.dat false y5q, .dat false (.sl (.int .i64)), .dat false (.int .i64), .dat false (.sl (.int .i64))]]]
def rs48q : RS := .c (.bool)
def pk48q : Bool → RL rs48q.cells := fun x => (x, ())
def up48q : RL rs48q.cells → Bool := fun d => d.1
def s48q (k : Nat) (d : AD as48q) := slices_ContainsFunc_Pay__post_Post_fn1 k d.1 d.2.1 d.2.2.1 d.2.2.2.1 d.2.2.2.2.1
def R48q : Nat × Entry := (88, fun k nm args h => entry as48q rs48q (s48q k) pk48q nm args h)
theorem ev48q (k : Nat) (d : AD as48q) : evF E48q A48q k 1000 0 Proofs.Try.f88 (absArgs as48q d).1 (absArgs as48q d).2 (outM rs48q up48q) = s48q k d := by
  obtain ⟨_, _, _, _, _, _⟩ := d
  kernel_rfl
theorem F48q : FnOK Proofs.Try.prog R48q := fn_b (E := E48q) (A := A48q) (na := 0) (fn := Proofs.Try.f88) (S := s48q) (unpack := up48q) B48q (by kernel_rfl) (loopsOK_none (by kernel_rfl)) (by kernel_rfl) (by kernel_rfl) (fun _ => rfl) ev48q

/-! ### slices.Clone[[]giro/api.Acct,giro/api.Acct] -/
noncomputable def E49q : Env := ⟨Proofs.Try.prog, fun _ => false, sumsOf []⟩
def A49q : Notes := ⟨[], []⟩
theorem B49q : EnvB E49q := env_n mixed_orders trivial
def as49q : List AS := [.c (.dat false y5q)]
def rs49q : RS := .c (.own y5q)
def pk49q : List K3q → RL rs49q.cells := fun x => (x, ())
def up49q : RL rs49q.cells → List K3q := fun d => d.1
def s49q (k : Nat) (d : AD as49q) := slices_Clone_Acct k d.1
def R49q : Nat × Entry := (114, fun k nm args h => entry as49q rs49q (fun d => slices_Clone_Acct k d.1) pk49q nm args h)
theorem nil49q (k : Nat) : evF E49q A49q k 1000 0 Proofs.Try.f114 [.c .nsl] (boxHp []) (outM rs49q up49q) = slices_Clone_Acct k [] := by kernel_rfl
theorem ev49q (k : Nat) (xs : List K3q) : evF E49q A49q k 1000 0 Proofs.Try.f114 [.c (.nfl false y5q xs)] (boxHp []) (outM rs49q up49q) = slices_Clone_Acct k xs := by kernel_rfl
theorem F49q : FnOK Proofs.Try.prog R49q := fn_nil (E := E49q) (A := A49q) (na := 0) (fn := Proofs.Try.f114) (t := y5q) (S := slices_Clone_Acct) (unpack := up49q) B49q (by kernel_rfl) (loopsOK_none (by kernel_rfl)) (by kernel_rfl) (by kernel_rfl) (fun _ => rfl) (fun k x hx => (nil49q k).trans hx) (fun k xs x hx => (ev49q k xs).trans hx)

/-! ### slices.Clone[[][]int64,[]int64] -/
noncomputable def E50q : Env := ⟨Proofs.Try.prog, fun _ => false, sumsOf []⟩
def A50q : Notes := ⟨[], []⟩
theorem B50q : EnvB E50q := env_n mixed_orders trivial
def as50q : List AS := [.c (.dat true (.sl (.int .i64)))]
def rs50q : RS := .c (.jun)
def pk50q : Nat → RL rs50q.cells := fun x => (x, ())
def up50q : RL rs50q.cells → Nat := fun d => d.1
def s50q (k : Nat) (d : AD as50q) := slices_Clone_Rowint64 k d.1
def R50q : Nat × Entry := (129, fun k nm args h => entry as50q rs50q (fun d => slices_Clone_Rowint64 k d.1) pk50q nm args h)
theorem nil50q (k : Nat) : evF E50q A50q k 1000 0 Proofs.Try.f129 [.c .nsl] (boxHp []) (outM rs50q up50q) = slices_Clone_Rowint64 k [] := by kernel_rfl
theorem ev50q (k : Nat) (xs : List (List Int)) : evF E50q A50q k 1000 0 Proofs.Try.f129 [.c (.nfl true (.sl (.int .i64)) xs)] (boxHp []) (outM rs50q up50q) = slices_Clone_Rowint64 k xs := by kernel_rfl
theorem F50q : FnOK Proofs.Try.prog R50q := fn_nil (E := E50q) (A := A50q) (na := 0) (fn := Proofs.Try.f129) (t := (.sl (.int .i64))) (S := slices_Clone_Rowint64) (unpack := up50q) B50q (by kernel_rfl) (loopsOK_none (by kernel_rfl)) (by kernel_rfl) (by kernel_rfl) (fun _ => rfl) (fun k x hx => (nil50q k).trans hx) (fun k xs x hx => (ev50q k xs).trans hx)

/-! ### slices.Clone[[]int64,int64] -/
noncomputable def E51q : Env := ⟨Proofs.Try.prog, fun _ => false, sumsOf []⟩
def A51q : Notes := ⟨[], []⟩
theorem B51q : EnvB E51q := env_n mixed_orders trivial
def as51q : List AS := [.c (.dat false (.int .i64))]
def rs51q : RS := .c (.own (.int .i64))
def pk51q : List Int → RL rs51q.cells := fun x => (x, ())
def up51q : RL rs51q.cells → List Int := fun d => d.1
def s51q (k : Nat) (d : AD as51q) := slices_Clone_int64 k d.1
def R51q : Nat × Entry := (116, fun k nm args h => entry as51q rs51q (fun d => slices_Clone_int64 k d.1) pk51q nm args h)
theorem nil51q (k : Nat) : evF E51q A51q k 1000 0 Proofs.Try.f116 [.c .nsl] (boxHp []) (outM rs51q up51q) = slices_Clone_int64 k [] := by kernel_rfl
theorem ev51q (k : Nat) (xs : List Int) : evF E51q A51q k 1000 0 Proofs.Try.f116 [.c (.nfl false (.int .i64) xs)] (boxHp []) (outM rs51q up51q) = slices_Clone_int64 k xs := by kernel_rfl
theorem F51q : FnOK Proofs.Try.prog R51q := fn_nil (E := E51q) (A := A51q) (na := 0) (fn := Proofs.Try.f116) (t := (.int .i64)) (S := slices_Clone_int64) (unpack := up51q) B51q (by kernel_rfl) (loopsOK_none (by kernel_rfl)) (by kernel_rfl) (by kernel_rfl) (fun _ => rfl) (fun k x hx => (nil51q k).trans hx) (fun k xs x hx => (ev51q k xs).trans hx)

/-! ### giro/lim.copied -/
noncomputable def E52q : Env := ⟨Proofs.Try.prog, fun _ => false, sumsOf [R50q, R51q]⟩
def I52_0q : Spec := ⟨[(3, .c (.lit (.osl 1001000 none))), (8, .c (.dat true (.sl (.int .i64)))), (9, .c (.int .i64)), (10, .c (.int .i64))], [.pmat], []⟩
def X0_52_0q : Spec := ⟨[(3, .c (.lit (.osl 1001000 none)))], [.pmat], []⟩
def O52_0q : List (Ex × Spec) := [(.exit 0, X0_52_0q)]
def c52_0q (f : lim_copied_L0T) (d : I52_0q.den) : Option ((List (List Int)) × Nat) := f d.1.2.1.1 d.1.2.2.1.1 d.1.2.2.2.1.1 d.2.1.1 d.2.1.2
def T52_0q : OutD O52_0q → ((List (List Int)) × Nat) := fun d => (d.2.1.1, d.2.1.2)
def e52_0q (base : Nat) (x : ((List (List Int)) × Nat)) (R : Type) (K : Ex → St → Option R) : Option R := K (.exit 0) (stOf base X0_52_0q (((), ()), ((x.1, x.2), ())))
def L52_0q : LoopSum := ⟨I52_0q, O52_0q, ((List (List Int)) × Nat), fun k d => c52_0q (lim_copied_L0 k k) d, e52_0q⟩
def A52q : Notes := ⟨[], [(3, L52_0q)]⟩
theorem B52q : EnvB E52q := env_n mixed_orders ⟨F50q, F51q, trivial⟩
theorem st52_0q (k : Nat) (rec : lim_copied_L0T) (d : I52_0q.den) : c52_0q (lim_copied_L0b k rec) d = evC E52q A52q k 1000 0 22 (loopAt (bodyOf Proofs.Try.f115) 0) (stOf (1000 + loopBase) I52_0q d) (roundK 1000 I52_0q O52_0q T52_0q (c52_0q rec)) := by
  obtain ⟨⟨_, ⟨_, _⟩, ⟨_, _⟩, ⟨_, _⟩, _⟩, ⟨_, _⟩⟩ := d
  kernel_rfl
theorem lk52_0q : LoopOK Proofs.Try.prog 1000 0 22 (loopAt (bodyOf Proofs.Try.f115) 0) L52_0q :=
  loop_b (A := A52q) (inS := I52_0q) (outs := O52_0q) B52q (loopsOK_none (by kernel_rfl)) T52_0q e52_0q (fun _ _ _ => rfl) (fun k n d => c52_0q (lim_copied_L0 k n) d) (fun _ _ => rfl) (fun k n d => st52_0q k (lim_copied_L0 k n) d)
def as52q : List AS := [.c (.dat true (.sl (.int .i64)))]
def rs52q : RS := .c (.mat)
def pk52q : List (List Int) → RL rs52q.cells := fun x => (x, ())
def up52q : RL rs52q.cells → List (List Int) := fun d => d.1
def s52q (k : Nat) (d : AD as52q) := lim_copied k d.1
def R52q : Nat × Entry := (115, fun k nm args h => entry as52q rs52q (s52q k) pk52q nm args h)
theorem ev52q (k : Nat) (d : AD as52q) : evF E52q A52q k 1000 0 Proofs.Try.f115 (absArgs as52q d).1 (absArgs as52q d).2 (outM rs52q up52q) = s52q k d := by
  obtain ⟨_, _⟩ := d
  kernel_rfl
theorem F52q : FnOK Proofs.Try.prog R52q := fn_b (E := E52q) (A := A52q) (na := 0) (fn := Proofs.Try.f115) (S := s52q) (unpack := up52q) B52q (by kernel_rfl) (loopsOK_of (n := 1) (by kernel_rfl) fun i hi => match i, hi with | 0, _ => ⟨L52_0q, by kernel_rfl, lk52_0q⟩ | i + 1, hi => absurd hi (by omega)) (by kernel_rfl) (by kernel_rfl) (fun _ => rfl) ev52q

/-! ### giro/lim.Copy -/
noncomputable def E53q : Env := ⟨Proofs.Try.prog, fun _ => false, sumsOf [R49q, R52q, R51q]⟩
def A53q : Notes := ⟨[], []⟩
theorem B53q : EnvB E53q := env_n mixed_orders ⟨F49q, F52q, F51q, trivial⟩
def as53q : List AS := [.agg [.dat false y5q, .dat true (.sl (.int .i64)), .dat false (.int .i64), .dat true (.sl (.int .i64))]]
def rs53q : RS := .agg [.own y5q, .mat, .own (.int .i64), .mat]
def pk53q : (List K3q) × (List (List Int)) × (List Int) × (List (List Int)) → RL rs53q.cells := fun x => (x.1, x.2.1, x.2.2.1, x.2.2.2, ())
def up53q : RL rs53q.cells → (List K3q) × (List (List Int)) × (List Int) × (List (List Int)) := fun d => (d.1, d.2.1, d.2.2.1, d.2.2.2.1)
def s53q (k : Nat) (d : AD as53q) := lim_Copy k d.1 d.2.1 d.2.2.1 d.2.2.2.1
def R53q : Nat × Entry := (96, fun k nm args h => entry as53q rs53q (s53q k) pk53q nm args h)
theorem ev53q (k : Nat) (d : AD as53q) : evF E53q A53q k 1000 0 Proofs.Try.f96 (absArgs as53q d).1 (absArgs as53q d).2 (outM rs53q up53q) = s53q k d := by
  obtain ⟨_, _, _, _, _⟩ := d
  kernel_rfl
theorem F53q : FnOK Proofs.Try.prog R53q := fn_b (E := E53q) (A := A53q) (na := 0) (fn := Proofs.Try.f96) (S := s53q) (unpack := up53q) B53q (by kernel_rfl) (loopsOK_none (by kernel_rfl)) (by kernel_rfl) (by kernel_rfl) (fun _ => rfl) ev53q

/-! ### giro/acct.Is -/
noncomputable def E54q : Env := ⟨Proofs.Try.prog, fun _ => false, sumsOf []⟩
def A54q : Notes := ⟨[], []⟩
theorem B54q : EnvB E54q := env_n mixed_orders trivial
def as54q : List AS := [.agg [.int .i64, .int .i64, .int .i64]]
def rs54q : RS := .c (.bool)
def pk54q : Bool → RL rs54q.cells := fun x => (x, ())
def up54q : RL rs54q.cells → Bool := fun d => d.1
def s54q (k : Nat) (d : AD as54q) := acct_Is k d.1 d.2.1 d.2.2.1
def R54q : Nat × Entry := (118, fun k nm args h => entry as54q rs54q (s54q k) pk54q nm args h)
theorem ev54q (k : Nat) (d : AD as54q) : evF E54q A54q k 1000 0 Proofs.Try.f118 (absArgs as54q d).1 (absArgs as54q d).2 (outM rs54q up54q) = s54q k d := by
  obtain ⟨_, _, _, _⟩ := d
  kernel_rfl
theorem F54q : FnOK Proofs.Try.prog R54q := fn_b (E := E54q) (A := A54q) (na := 0) (fn := Proofs.Try.f118) (S := s54q) (unpack := up54q) B54q (by kernel_rfl) (loopsOK_none (by kernel_rfl)) (by kernel_rfl) (by kernel_rfl) (fun _ => rfl) ev54q

/-! ### giro/lim.Is$1 -/
noncomputable def E55q : Env := ⟨Proofs.Try.prog, fun _ => false, sumsOf [R54q]⟩
def A55q : Notes := ⟨[], []⟩
theorem B55q : EnvB E55q := env_n mixed_orders ⟨F54q, trivial⟩
def as55q : List AS := [.agg [.int .i64, .int .i64, .int .i64]]
def rs55q : RS := .c (.bool)
def pk55q : Bool → RL rs55q.cells := fun x => (x, ())
def up55q : RL rs55q.cells → Bool := fun d => d.1
def s55q (k : Nat) (d : AD as55q) := lim_Is_fn1 k d.1 d.2.1 d.2.2.1
def R55q : Nat × Entry := (117, fun k nm args h => entry as55q rs55q (s55q k) pk55q nm args h)
theorem ev55q (k : Nat) (d : AD as55q) : evF E55q A55q k 1000 0 Proofs.Try.f117 (absArgs as55q d).1 (absArgs as55q d).2 (outM rs55q up55q) = s55q k d := by
  obtain ⟨_, _, _, _⟩ := d
  kernel_rfl
theorem F55q : FnOK Proofs.Try.prog R55q := fn_b (E := E55q) (A := A55q) (na := 0) (fn := Proofs.Try.f117) (S := s55q) (unpack := up55q) B55q (by kernel_rfl) (loopsOK_none (by kernel_rfl)) (by kernel_rfl) (by kernel_rfl) (fun _ => rfl) ev55q

/-! ### slices.IndexFunc[[]giro/api.Acct,giro/api.Acct] -/
noncomputable def E56q : Env := ⟨Proofs.Try.prog, fun _ => false, sumsOf [R55q]⟩
def I56_0q : Spec := ⟨[(0, .c (.dat false y5q)), (1, .c (.lit (.fn 117 []))), (7, .c (.int .i64)), (8, .c (.int .i64))], [], []⟩
def X0_56_0q : Spec := ⟨[], [], []⟩
def X1_56_0q : Spec := ⟨[(4, .c (.int .i64))], [], []⟩
def O56_0q : List (Ex × Spec) := [(.exit 0, X0_56_0q), (.ret, X1_56_0q)]
def c56_0q (f : slices_IndexFunc_Acct__lim_Is_fn1_L0T) (d : I56_0q.den) : Option (Unit ⊕ Int) := f d.1.1.1 d.1.2.2.1.1 d.1.2.2.2.1.1
def T56_0q : OutD O56_0q → (Unit ⊕ Int)
 | .inl d => .inl ()
 | .inr d => .inr d.1.1.1
def e56_0q (base : Nat) (x : (Unit ⊕ Int)) (R : Type) (K : Ex → St → Option R) : Option R := match x with
 | .inl x => K (.exit 0) (stOf base X0_56_0q ((), ()))
 | .inr x => K .ret (stOf base X1_56_0q (((x, ()), ()), ()))
def L56_0q : LoopSum := ⟨I56_0q, O56_0q, (Unit ⊕ Int), fun k d => c56_0q (slices_IndexFunc_Acct__lim_Is_fn1_L0 k k) d, e56_0q⟩
def A56q : Notes := ⟨[], [(2, L56_0q)]⟩
theorem B56q : EnvB E56q := env_n mixed_orders ⟨F55q, trivial⟩
theorem st56_0q (k : Nat) (rec : slices_IndexFunc_Acct__lim_Is_fn1_L0T) (d : I56_0q.den) : c56_0q (slices_IndexFunc_Acct__lim_Is_fn1_L0b k rec) d = evC E56q A56q k 1000 0 19 (loopAt (bodyOf Proofs.Try.f130) 0) (stOf (1000 + loopBase) I56_0q d) (roundK 1000 I56_0q O56_0q T56_0q (c56_0q rec)) := by
  obtain ⟨⟨⟨_, _⟩, _, ⟨_, _⟩, ⟨_, _⟩, _⟩, _⟩ := d
  kernel_rfl
theorem lk56_0q : LoopOK Proofs.Try.prog 1000 0 19 (loopAt (bodyOf Proofs.Try.f130) 0) L56_0q :=
  loop_b (A := A56q) (inS := I56_0q) (outs := O56_0q) B56q (loopsOK_none (by kernel_rfl)) T56_0q e56_0q (by intro o R K; rcases o with o | o <;> rfl) (fun k n d => c56_0q (slices_IndexFunc_Acct__lim_Is_fn1_L0 k n) d) (fun _ _ => rfl) (fun k n d => st56_0q k (slices_IndexFunc_Acct__lim_Is_fn1_L0 k n) d)
def as56q : List AS := [.c (.dat false y5q), .c (.fn 117)]
def rs56q : RS := .c (.int .i64)
def pk56q : Int → RL rs56q.cells := fun x => (x, ())
def up56q : RL rs56q.cells → Int := fun d => d.1
def s56q (k : Nat) (d : AD as56q) := slices_IndexFunc_Acct__lim_Is_fn1 k d.1
def R56q : Nat × Entry := (130, fun k nm args h => entry as56q rs56q (s56q k) pk56q nm args h)
theorem ev56q (k : Nat) (d : AD as56q) : evF E56q A56q k 1000 0 Proofs.Try.f130 (absArgs as56q d).1 (absArgs as56q d).2 (outM rs56q up56q) = s56q k d := by
  obtain ⟨_, _, _⟩ := d
  kernel_rfl
theorem F56q : FnOK Proofs.Try.prog R56q := fn_b (E := E56q) (A := A56q) (na := 0) (fn := Proofs.Try.f130) (S := s56q) (unpack := up56q) B56q (by kernel_rfl) (loopsOK_of (n := 1) (by kernel_rfl) fun i hi => match i, hi with | 0, _ => ⟨L56_0q, by kernel_rfl, lk56_0q⟩ | i + 1, hi => absurd hi (by omega)) (by kernel_rfl) (by kernel_rfl) (fun _ => rfl) ev56q

/-! ### slices.ContainsFunc[[]giro/api.Acct,giro/api.Acct] -/
noncomputable def E57q : Env := ⟨Proofs.Try.prog, fun _ => false, sumsOf [R56q]⟩
def A57q : Notes := ⟨[], []⟩
theorem B57q : EnvB E57q := env_n mixed_orders ⟨F56q, trivial⟩
def as57q : List AS := [.c (.dat false y5q), .c (.fn 117)]
def rs57q : RS := .c (.bool)
def pk57q : Bool → RL rs57q.cells := fun x => (x, ())
def up57q : RL rs57q.cells → Bool := fun d => d.1
def s57q (k : Nat) (d : AD as57q) := slices_ContainsFunc_Acct__lim_Is_fn1 k d.1
def R57q : Nat × Entry := (119, fun k nm args h => entry as57q rs57q (s57q k) pk57q nm args h)
theorem ev57q (k : Nat) (d : AD as57q) : evF E57q A57q k 1000 0 Proofs.Try.f119 (absArgs as57q d).1 (absArgs as57q d).2 (outM rs57q up57q) = s57q k d := by
  obtain ⟨_, _, _⟩ := d
  kernel_rfl
theorem F57q : FnOK Proofs.Try.prog R57q := fn_b (E := E57q) (A := A57q) (na := 0) (fn := Proofs.Try.f119) (S := s57q) (unpack := up57q) B57q (by kernel_rfl) (loopsOK_none (by kernel_rfl)) (by kernel_rfl) (by kernel_rfl) (fun _ => rfl) ev57q

/-! ### giro/lim.isLimit -/
noncomputable def E58q : Env := ⟨Proofs.Try.prog, fun _ => false, sumsOf []⟩
def A58q : Notes := ⟨[], []⟩
theorem B58q : EnvB E58q := env_n mixed_orders trivial
def as58q : List AS := [.c (.int .i64)]
def rs58q : RS := .c (.bool)
def pk58q : Bool → RL rs58q.cells := fun x => (x, ())
def up58q : RL rs58q.cells → Bool := fun d => d.1
def s58q (k : Nat) (d : AD as58q) := lim_isLimit k d.1
def R58q : Nat × Entry := (121, fun k nm args h => entry as58q rs58q (s58q k) pk58q nm args h)
theorem ev58q (k : Nat) (d : AD as58q) : evF E58q A58q k 1000 0 Proofs.Try.f121 (absArgs as58q d).1 (absArgs as58q d).2 (outM rs58q up58q) = s58q k d := by
  obtain ⟨_, _⟩ := d
  kernel_rfl
theorem F58q : FnOK Proofs.Try.prog R58q := fn_b (E := E58q) (A := A58q) (na := 0) (fn := Proofs.Try.f121) (S := s58q) (unpack := up58q) B58q (by kernel_rfl) (loopsOK_none (by kernel_rfl)) (by kernel_rfl) (by kernel_rfl) (fun _ => rfl) ev58q

/-! ### giro/lim.isRow$1 -/
noncomputable def E59q : Env := ⟨Proofs.Try.prog, fun _ => false, sumsOf [R58q]⟩
def A59q : Notes := ⟨[], []⟩
theorem B59q : EnvB E59q := env_n mixed_orders ⟨F58q, trivial⟩
def as59q : List AS := [.c (.int .i64), .ptr [.fn 121]]
def rs59q : RS := .c (.bool)
def pk59q : Bool → RL rs59q.cells := fun x => (x, ())
def up59q : RL rs59q.cells → Bool := fun d => d.1
def s59q (k : Nat) (d : AD as59q) := lim_isRow_fn1__lim_isLimit k d.1
def R59q : Nat × Entry := (132, fun k nm args h => entry as59q rs59q (s59q k) pk59q nm args h)
theorem ev59q (k : Nat) (d : AD as59q) : evF E59q A59q k 1000 0 Proofs.Try.f132 (absArgs as59q d).1 (absArgs as59q d).2 (outM rs59q up59q) = s59q k d := by
  obtain ⟨_, _, _⟩ := d
  kernel_rfl
theorem F59q : FnOK Proofs.Try.prog R59q := fn_b (E := E59q) (A := A59q) (na := 0) (fn := Proofs.Try.f132) (S := s59q) (unpack := up59q) B59q (by kernel_rfl) (loopsOK_none (by kernel_rfl)) (by kernel_rfl) (by kernel_rfl) (fun _ => rfl) ev59q

/-! ### slices.IndexFunc[[]int64,int64] -/
noncomputable def E60q : Env := ⟨Proofs.Try.prog, fun _ => false, sumsOf [R59q]⟩
def I60_0q : Spec := ⟨[(0, .c (.dat false (.int .i64))), (1, .c (.lit (.fn 132 [1001000]))), (7, .c (.int .i64)), (8, .c (.int .i64))], [.robox [.lit (.fn 121 [])]], []⟩
def X0_60_0q : Spec := ⟨[], [], []⟩
def X1_60_0q : Spec := ⟨[(4, .c (.int .i64))], [], []⟩
def O60_0q : List (Ex × Spec) := [(.exit 0, X0_60_0q), (.ret, X1_60_0q)]
def c60_0q (f : slices_IndexFunc_int64__lim_isRow_fn1__lim_isLimit_L0T) (d : I60_0q.den) : Option (Unit ⊕ Int) := f d.1.1.1 d.1.2.2.1.1 d.1.2.2.2.1.1
def T60_0q : OutD O60_0q → (Unit ⊕ Int)
 | .inl d => .inl ()
 | .inr d => .inr d.1.1.1
def e60_0q (base : Nat) (x : (Unit ⊕ Int)) (R : Type) (K : Ex → St → Option R) : Option R := match x with
 | .inl x => K (.exit 0) (stOf base X0_60_0q ((), ()))
 | .inr x => K .ret (stOf base X1_60_0q (((x, ()), ()), ()))
def L60_0q : LoopSum := ⟨I60_0q, O60_0q, (Unit ⊕ Int), fun k d => c60_0q (slices_IndexFunc_int64__lim_isRow_fn1__lim_isLimit_L0 k k) d, e60_0q⟩
def A60q : Notes := ⟨[], [(2, L60_0q)]⟩
theorem B60q : EnvB E60q := env_n mixed_orders ⟨F59q, trivial⟩
theorem st60_0q (k : Nat) (rec : slices_IndexFunc_int64__lim_isRow_fn1__lim_isLimit_L0T) (d : I60_0q.den) : c60_0q (slices_IndexFunc_int64__lim_isRow_fn1__lim_isLimit_L0b k rec) d = evC E60q A60q k 1000 0 19 (loopAt (bodyOf Proofs.Try.f135) 0) (stOf (1000 + loopBase) I60_0q d) (roundK 1000 I60_0q O60_0q T60_0q (c60_0q rec)) := by
  obtain ⟨⟨⟨_, _⟩, _, ⟨_, _⟩, ⟨_, _⟩, _⟩, ⟨_, _⟩⟩ := d
  kernel_rfl
theorem lk60_0q : LoopOK Proofs.Try.prog 1000 0 19 (loopAt (bodyOf Proofs.Try.f135) 0) L60_0q :=
  loop_b (A := A60q) (inS := I60_0q) (outs := O60_0q) B60q (loopsOK_none (by kernel_rfl)) T60_0q e60_0q (by intro o R K; rcases o with o | o <;> rfl) (fun k n d => c60_0q (slices_IndexFunc_int64__lim_isRow_fn1__lim_isLimit_L0 k n) d) (fun _ _ => rfl) (fun k n d => st60_0q k (slices_IndexFunc_int64__lim_isRow_fn1__lim_isLimit_L0 k n) d)
def as60q : List AS := [.c (.dat false (.int .i64)), .fn 132 [[.fn 121]]]
def rs60q : RS := .c (.int .i64)
def pk60q : Int → RL rs60q.cells := fun x => (x, ())
def up60q : RL rs60q.cells → Int := fun d => d.1
def s60q (k : Nat) (d : AD as60q) := slices_IndexFunc_int64__lim_isRow_fn1__lim_isLimit k d.1
def R60q : Nat × Entry := (135, fun k nm args h => entry as60q rs60q (s60q k) pk60q nm args h)
theorem ev60q (k : Nat) (d : AD as60q) : evF E60q A60q k 1000 0 Proofs.Try.f135 (absArgs as60q d).1 (absArgs as60q d).2 (outM rs60q up60q) = s60q k d := by
  obtain ⟨_, _, _⟩ := d
  kernel_rfl
theorem F60q : FnOK Proofs.Try.prog R60q := fn_b (E := E60q) (A := A60q) (na := 0) (fn := Proofs.Try.f135) (S := s60q) (unpack := up60q) B60q (by kernel_rfl) (loopsOK_of (n := 1) (by kernel_rfl) fun i hi => match i, hi with | 0, _ => ⟨L60_0q, by kernel_rfl, lk60_0q⟩ | i + 1, hi => absurd hi (by omega)) (by kernel_rfl) (by kernel_rfl) (fun _ => rfl) ev60q

/-! ### slices.ContainsFunc[[]int64,int64] -/
noncomputable def E61q : Env := ⟨Proofs.Try.prog, fun _ => false, sumsOf [R60q]⟩
def A61q : Notes := ⟨[], []⟩
theorem B61q : EnvB E61q := env_n mixed_orders ⟨F60q, trivial⟩
def as61q : List AS := [.c (.dat false (.int .i64)), .fn 132 [[.fn 121]]]
def rs61q : RS := .c (.bool)
def pk61q : Bool → RL rs61q.cells := fun x => (x, ())
def up61q : RL rs61q.cells → Bool := fun d => d.1
def s61q (k : Nat) (d : AD as61q) := slices_ContainsFunc_int64__lim_isRow_fn1__lim_isLimit k d.1
def R61q : Nat × Entry := (131, fun k nm args h => entry as61q rs61q (s61q k) pk61q nm args h)
theorem ev61q (k : Nat) (d : AD as61q) : evF E61q A61q k 1000 0 Proofs.Try.f131 (absArgs as61q d).1 (absArgs as61q d).2 (outM rs61q up61q) = s61q k d := by
  obtain ⟨_, _, _⟩ := d
  kernel_rfl
theorem F61q : FnOK Proofs.Try.prog R61q := fn_b (E := E61q) (A := A61q) (na := 0) (fn := Proofs.Try.f131) (S := s61q) (unpack := up61q) B61q (by kernel_rfl) (loopsOK_none (by kernel_rfl)) (by kernel_rfl) (by kernel_rfl) (fun _ => rfl) ev61q

/-! ### giro/lim.isRow -/
noncomputable def E62q : Env := ⟨Proofs.Try.prog, fun _ => false, sumsOf [R61q]⟩
def A62q : Notes := ⟨[], []⟩
theorem B62q : EnvB E62q := env_n mixed_orders ⟨F61q, trivial⟩
def as62q : List AS := [.c (.dat false (.int .i64)), .c (.int .i64), .c (.fn 121)]
def rs62q : RS := .c (.bool)
def pk62q : Bool → RL rs62q.cells := fun x => (x, ())
def up62q : RL rs62q.cells → Bool := fun d => d.1
def s62q (k : Nat) (d : AD as62q) := lim_isRow__lim_isLimit k d.1 d.2.1
def R62q : Nat × Entry := (122, fun k nm args h => entry as62q rs62q (s62q k) pk62q nm args h)
theorem ev62q (k : Nat) (d : AD as62q) : evF E62q A62q k 1000 0 Proofs.Try.f122 (absArgs as62q d).1 (absArgs as62q d).2 (outM rs62q up62q) = s62q k d := by
  obtain ⟨_, _, _, _⟩ := d
  kernel_rfl
theorem F62q : FnOK Proofs.Try.prog R62q := fn_b (E := E62q) (A := A62q) (na := 0) (fn := Proofs.Try.f122) (S := s62q) (unpack := up62q) B62q (by kernel_rfl) (loopsOK_none (by kernel_rfl)) (by kernel_rfl) (by kernel_rfl) (fun _ => rfl) ev62q

/-! ### giro/lim.isSquare -/
noncomputable def E63q : Env := ⟨Proofs.Try.prog, fun _ => false, sumsOf [R62q]⟩
def I63_0q : Spec := ⟨[(1, .c (.int .i64)), (2, .c (.lit (.fn 121 []))), (13, .c (.dat false (.sl (.int .i64)))), (14, .c (.int .i64)), (15, .c (.int .i64))], [], []⟩
def X0_63_0q : Spec := ⟨[], [], []⟩
def X1_63_0q : Spec := ⟨[(6, .c (.bool))], [], []⟩
def O63_0q : List (Ex × Spec) := [(.exit 0, X0_63_0q), (.ret, X1_63_0q)]
def c63_0q (f : lim_isSquare__lim_isLimit_L0T) (d : I63_0q.den) : Option (Unit ⊕ Bool) := f d.1.1.1 d.1.2.2.1.1 d.1.2.2.2.1.1 d.1.2.2.2.2.1.1
def T63_0q : OutD O63_0q → (Unit ⊕ Bool)
 | .inl d => .inl ()
 | .inr d => .inr d.1.1.1
def e63_0q (base : Nat) (x : (Unit ⊕ Bool)) (R : Type) (K : Ex → St → Option R) : Option R := match x with
 | .inl x => K (.exit 0) (stOf base X0_63_0q ((), ()))
 | .inr x => K .ret (stOf base X1_63_0q (((x, ()), ()), ()))
def L63_0q : LoopSum := ⟨I63_0q, O63_0q, (Unit ⊕ Bool), fun k d => c63_0q (lim_isSquare__lim_isLimit_L0 k k) d, e63_0q⟩
def A63q : Notes := ⟨[], [(4, L63_0q)]⟩
theorem B63q : EnvB E63q := env_n mixed_orders ⟨F62q, trivial⟩
theorem st63_0q (k : Nat) (rec : lim_isSquare__lim_isLimit_L0T) (d : I63_0q.den) : c63_0q (lim_isSquare__lim_isLimit_L0b k rec) d = evC E63q A63q k 1000 0 25 (loopAt (bodyOf Proofs.Try.f120) 0) (stOf (1000 + loopBase) I63_0q d) (roundK 1000 I63_0q O63_0q T63_0q (c63_0q rec)) := by
  obtain ⟨⟨⟨_, _⟩, _, ⟨_, _⟩, ⟨_, _⟩, ⟨_, _⟩, _⟩, _⟩ := d
  kernel_rfl
theorem lk63_0q : LoopOK Proofs.Try.prog 1000 0 25 (loopAt (bodyOf Proofs.Try.f120) 0) L63_0q :=
  loop_b (A := A63q) (inS := I63_0q) (outs := O63_0q) B63q (loopsOK_none (by kernel_rfl)) T63_0q e63_0q (by intro o R K; rcases o with o | o <;> rfl) (fun k n d => c63_0q (lim_isSquare__lim_isLimit_L0 k n) d) (fun _ _ => rfl) (fun k n d => st63_0q k (lim_isSquare__lim_isLimit_L0 k n) d)
def as63q : List AS := [.c (.dat false (.sl (.int .i64))), .c (.int .i64), .c (.fn 121)]
def rs63q : RS := .c (.bool)
def pk63q : Bool → RL rs63q.cells := fun x => (x, ())
def up63q : RL rs63q.cells → Bool := fun d => d.1
def s63q (k : Nat) (d : AD as63q) := lim_isSquare__lim_isLimit k d.1 d.2.1
def R63q : Nat × Entry := (120, fun k nm args h => entry as63q rs63q (s63q k) pk63q nm args h)
theorem ev63q (k : Nat) (d : AD as63q) : evF E63q A63q k 1000 0 Proofs.Try.f120 (absArgs as63q d).1 (absArgs as63q d).2 (outM rs63q up63q) = s63q k d := by
  obtain ⟨_, _, _, _⟩ := d
  kernel_rfl
theorem F63q : FnOK Proofs.Try.prog R63q := fn_b (E := E63q) (A := A63q) (na := 0) (fn := Proofs.Try.f120) (S := s63q) (unpack := up63q) B63q (by kernel_rfl) (loopsOK_of (n := 1) (by kernel_rfl) fun i hi => match i, hi with | 0, _ => ⟨L63_0q, by kernel_rfl, lk63_0q⟩ | i + 1, hi => absurd hi (by omega)) (by kernel_rfl) (by kernel_rfl) (fun _ => rfl) ev63q

/-! ### giro/lim.isNet -/
noncomputable def E64q : Env := ⟨Proofs.Try.prog, fun _ => false, sumsOf []⟩
def A64q : Notes := ⟨[], []⟩
theorem B64q : EnvB E64q := env_n mixed_orders trivial
def as64q : List AS := [.c (.int .i64)]
def rs64q : RS := .c (.bool)
def pk64q : Bool → RL rs64q.cells := fun x => (x, ())
def up64q : RL rs64q.cells → Bool := fun d => d.1
def s64q (k : Nat) (d : AD as64q) := lim_isNet k d.1
def R64q : Nat × Entry := (123, fun k nm args h => entry as64q rs64q (s64q k) pk64q nm args h)
theorem ev64q (k : Nat) (d : AD as64q) : evF E64q A64q k 1000 0 Proofs.Try.f123 (absArgs as64q d).1 (absArgs as64q d).2 (outM rs64q up64q) = s64q k d := by
  obtain ⟨_, _⟩ := d
  kernel_rfl
theorem F64q : FnOK Proofs.Try.prog R64q := fn_b (E := E64q) (A := A64q) (na := 0) (fn := Proofs.Try.f123) (S := s64q) (unpack := up64q) B64q (by kernel_rfl) (loopsOK_none (by kernel_rfl)) (by kernel_rfl) (by kernel_rfl) (fun _ => rfl) ev64q

/-! ### giro/lim.isRow$1 -/
noncomputable def E65q : Env := ⟨Proofs.Try.prog, fun _ => false, sumsOf [R64q]⟩
def A65q : Notes := ⟨[], []⟩
theorem B65q : EnvB E65q := env_n mixed_orders ⟨F64q, trivial⟩
def as65q : List AS := [.c (.int .i64), .ptr [.fn 123]]
def rs65q : RS := .c (.bool)
def pk65q : Bool → RL rs65q.cells := fun x => (x, ())
def up65q : RL rs65q.cells → Bool := fun d => d.1
def s65q (k : Nat) (d : AD as65q) := lim_isRow_fn1__lim_isNet k d.1
def R65q : Nat × Entry := (132, fun k nm args h => entry as65q rs65q (s65q k) pk65q nm args h)
theorem ev65q (k : Nat) (d : AD as65q) : evF E65q A65q k 1000 0 Proofs.Try.f132 (absArgs as65q d).1 (absArgs as65q d).2 (outM rs65q up65q) = s65q k d := by
  obtain ⟨_, _, _⟩ := d
  kernel_rfl
theorem F65q : FnOK Proofs.Try.prog R65q := fn_b (E := E65q) (A := A65q) (na := 0) (fn := Proofs.Try.f132) (S := s65q) (unpack := up65q) B65q (by kernel_rfl) (loopsOK_none (by kernel_rfl)) (by kernel_rfl) (by kernel_rfl) (fun _ => rfl) ev65q

/-! ### slices.IndexFunc[[]int64,int64] -/
noncomputable def E66q : Env := ⟨Proofs.Try.prog, fun _ => false, sumsOf [R65q]⟩
def I66_0q : Spec := ⟨[(0, .c (.dat false (.int .i64))), (1, .c (.lit (.fn 132 [1001000]))), (7, .c (.int .i64)), (8, .c (.int .i64))], [.robox [.lit (.fn 123 [])]], []⟩
def X0_66_0q : Spec := ⟨[], [], []⟩
def X1_66_0q : Spec := ⟨[(4, .c (.int .i64))], [], []⟩
def O66_0q : List (Ex × Spec) := [(.exit 0, X0_66_0q), (.ret, X1_66_0q)]
def c66_0q (f : slices_IndexFunc_int64__lim_isRow_fn1__lim_isNet_L0T) (d : I66_0q.den) : Option (Unit ⊕ Int) := f d.1.1.1 d.1.2.2.1.1 d.1.2.2.2.1.1
def T66_0q : OutD O66_0q → (Unit ⊕ Int)
 | .inl d => .inl ()
 | .inr d => .inr d.1.1.1
def e66_0q (base : Nat) (x : (Unit ⊕ Int)) (R : Type) (K : Ex → St → Option R) : Option R := match x with
 | .inl x => K (.exit 0) (stOf base X0_66_0q ((), ()))
 | .inr x => K .ret (stOf base X1_66_0q (((x, ()), ()), ()))
def L66_0q : LoopSum := ⟨I66_0q, O66_0q, (Unit ⊕ Int), fun k d => c66_0q (slices_IndexFunc_int64__lim_isRow_fn1__lim_isNet_L0 k k) d, e66_0q⟩
def A66q : Notes := ⟨[], [(2, L66_0q)]⟩
theorem B66q : EnvB E66q := env_n mixed_orders ⟨F65q, trivial⟩
theorem st66_0q (k : Nat) (rec : slices_IndexFunc_int64__lim_isRow_fn1__lim_isNet_L0T) (d : I66_0q.den) : c66_0q (slices_IndexFunc_int64__lim_isRow_fn1__lim_isNet_L0b k rec) d = evC E66q A66q k 1000 0 19 (loopAt (bodyOf Proofs.Try.f135) 0) (stOf (1000 + loopBase) I66_0q d) (roundK 1000 I66_0q O66_0q T66_0q (c66_0q rec)) := by
  obtain ⟨⟨⟨_, _⟩, _, ⟨_, _⟩, ⟨_, _⟩, _⟩, ⟨_, _⟩⟩ := d
  kernel_rfl
theorem lk66_0q : LoopOK Proofs.Try.prog 1000 0 19 (loopAt (bodyOf Proofs.Try.f135) 0) L66_0q :=
  loop_b (A := A66q) (inS := I66_0q) (outs := O66_0q) B66q (loopsOK_none (by kernel_rfl)) T66_0q e66_0q (by intro o R K; rcases o with o | o <;> rfl) (fun k n d => c66_0q (slices_IndexFunc_int64__lim_isRow_fn1__lim_isNet_L0 k n) d) (fun _ _ => rfl) (fun k n d => st66_0q k (slices_IndexFunc_int64__lim_isRow_fn1__lim_isNet_L0 k n) d)
def as66q : List AS := [.c (.dat false (.int .i64)), .fn 132 [[.fn 123]]]
def rs66q : RS := .c (.int .i64)
def pk66q : Int → RL rs66q.cells := fun x => (x, ())
def up66q : RL rs66q.cells → Int := fun d => d.1
def s66q (k : Nat) (d : AD as66q) := slices_IndexFunc_int64__lim_isRow_fn1__lim_isNet k d.1
def R66q : Nat × Entry := (135, fun k nm args h => entry as66q rs66q (s66q k) pk66q nm args h)
theorem ev66q (k : Nat) (d : AD as66q) : evF E66q A66q k 1000 0 Proofs.Try.f135 (absArgs as66q d).1 (absArgs as66q d).2 (outM rs66q up66q) = s66q k d := by
  obtain ⟨_, _, _⟩ := d
  kernel_rfl
theorem F66q : FnOK Proofs.Try.prog R66q := fn_b (E := E66q) (A := A66q) (na := 0) (fn := Proofs.Try.f135) (S := s66q) (unpack := up66q) B66q (by kernel_rfl) (loopsOK_of (n := 1) (by kernel_rfl) fun i hi => match i, hi with | 0, _ => ⟨L66_0q, by kernel_rfl, lk66_0q⟩ | i + 1, hi => absurd hi (by omega)) (by kernel_rfl) (by kernel_rfl) (fun _ => rfl) ev66q

/-! ### slices.ContainsFunc[[]int64,int64] -/
noncomputable def E67q : Env := ⟨Proofs.Try.prog, fun _ => false, sumsOf [R66q]⟩
def A67q : Notes := ⟨[], []⟩
theorem B67q : EnvB E67q := env_n mixed_orders ⟨F66q, trivial⟩
def as67q : List AS := [.c (.dat false (.int .i64)), .fn 132 [[.fn 123]]]
def rs67q : RS := .c (.bool)
def pk67q : Bool → RL rs67q.cells := fun x => (x, ())
def up67q : RL rs67q.cells → Bool := fun d => d.1
def s67q (k : Nat) (d : AD as67q) := slices_ContainsFunc_int64__lim_isRow_fn1__lim_isNet k d.1
def R67q : Nat × Entry := (131, fun k nm args h => entry as67q rs67q (s67q k) pk67q nm args h)
theorem ev67q (k : Nat) (d : AD as67q) : evF E67q A67q k 1000 0 Proofs.Try.f131 (absArgs as67q d).1 (absArgs as67q d).2 (outM rs67q up67q) = s67q k d := by
  obtain ⟨_, _, _⟩ := d
  kernel_rfl
theorem F67q : FnOK Proofs.Try.prog R67q := fn_b (E := E67q) (A := A67q) (na := 0) (fn := Proofs.Try.f131) (S := s67q) (unpack := up67q) B67q (by kernel_rfl) (loopsOK_none (by kernel_rfl)) (by kernel_rfl) (by kernel_rfl) (fun _ => rfl) ev67q

/-! ### giro/lim.isRow -/
noncomputable def E68q : Env := ⟨Proofs.Try.prog, fun _ => false, sumsOf [R67q]⟩
def A68q : Notes := ⟨[], []⟩
theorem B68q : EnvB E68q := env_n mixed_orders ⟨F67q, trivial⟩
def as68q : List AS := [.c (.dat false (.int .i64)), .c (.int .i64), .c (.fn 123)]
def rs68q : RS := .c (.bool)
def pk68q : Bool → RL rs68q.cells := fun x => (x, ())
def up68q : RL rs68q.cells → Bool := fun d => d.1
def s68q (k : Nat) (d : AD as68q) := lim_isRow__lim_isNet k d.1 d.2.1
def R68q : Nat × Entry := (122, fun k nm args h => entry as68q rs68q (s68q k) pk68q nm args h)
theorem ev68q (k : Nat) (d : AD as68q) : evF E68q A68q k 1000 0 Proofs.Try.f122 (absArgs as68q d).1 (absArgs as68q d).2 (outM rs68q up68q) = s68q k d := by
  obtain ⟨_, _, _, _⟩ := d
  kernel_rfl
theorem F68q : FnOK Proofs.Try.prog R68q := fn_b (E := E68q) (A := A68q) (na := 0) (fn := Proofs.Try.f122) (S := s68q) (unpack := up68q) B68q (by kernel_rfl) (loopsOK_none (by kernel_rfl)) (by kernel_rfl) (by kernel_rfl) (fun _ => rfl) ev68q

/-! ### giro/lim.isSquare -/
noncomputable def E69q : Env := ⟨Proofs.Try.prog, fun _ => false, sumsOf [R68q]⟩
def I69_0q : Spec := ⟨[(1, .c (.int .i64)), (2, .c (.lit (.fn 123 []))), (13, .c (.dat false (.sl (.int .i64)))), (14, .c (.int .i64)), (15, .c (.int .i64))], [], []⟩
def X0_69_0q : Spec := ⟨[], [], []⟩
def X1_69_0q : Spec := ⟨[(6, .c (.bool))], [], []⟩
def O69_0q : List (Ex × Spec) := [(.exit 0, X0_69_0q), (.ret, X1_69_0q)]
def c69_0q (f : lim_isSquare__lim_isNet_L0T) (d : I69_0q.den) : Option (Unit ⊕ Bool) := f d.1.1.1 d.1.2.2.1.1 d.1.2.2.2.1.1 d.1.2.2.2.2.1.1
def T69_0q : OutD O69_0q → (Unit ⊕ Bool)
 | .inl d => .inl ()
 | .inr d => .inr d.1.1.1
def e69_0q (base : Nat) (x : (Unit ⊕ Bool)) (R : Type) (K : Ex → St → Option R) : Option R := match x with
 | .inl x => K (.exit 0) (stOf base X0_69_0q ((), ()))
 | .inr x => K .ret (stOf base X1_69_0q (((x, ()), ()), ()))
def L69_0q : LoopSum := ⟨I69_0q, O69_0q, (Unit ⊕ Bool), fun k d => c69_0q (lim_isSquare__lim_isNet_L0 k k) d, e69_0q⟩
def A69q : Notes := ⟨[], [(4, L69_0q)]⟩
theorem B69q : EnvB E69q := env_n mixed_orders ⟨F68q, trivial⟩
theorem st69_0q (k : Nat) (rec : lim_isSquare__lim_isNet_L0T) (d : I69_0q.den) : c69_0q (lim_isSquare__lim_isNet_L0b k rec) d = evC E69q A69q k 1000 0 25 (loopAt (bodyOf Proofs.Try.f120) 0) (stOf (1000 + loopBase) I69_0q d) (roundK 1000 I69_0q O69_0q T69_0q (c69_0q rec)) := by
  obtain ⟨⟨⟨_, _⟩, _, ⟨_, _⟩, ⟨_, _⟩, ⟨_, _⟩, _⟩, _⟩ := d
  kernel_rfl
theorem lk69_0q : LoopOK Proofs.Try.prog 1000 0 25 (loopAt (bodyOf Proofs.Try.f120) 0) L69_0q :=
  loop_b (A := A69q) (inS := I69_0q) (outs := O69_0q) B69q (loopsOK_none (by kernel_rfl)) T69_0q e69_0q (by intro o R K; rcases o with o | o <;> rfl) (fun k n d => c69_0q (lim_isSquare__lim_isNet_L0 k n) d) (fun _ _ => rfl) (fun k n d => st69_0q k (lim_isSquare__lim_isNet_L0 k n) d)
def as69q : List AS := [.c (.dat false (.sl (.int .i64))), .c (.int .i64), .c (.fn 123)]
def rs69q : RS := .c (.bool)
def pk69q : Bool → RL rs69q.cells := fun x => (x, ())
def up69q : RL rs69q.cells → Bool := fun d => d.1
def s69q (k : Nat) (d : AD as69q) := lim_isSquare__lim_isNet k d.1 d.2.1
def R69q : Nat × Entry := (120, fun k nm args h => entry as69q rs69q (s69q k) pk69q nm args h)
theorem ev69q (k : Nat) (d : AD as69q) : evF E69q A69q k 1000 0 Proofs.Try.f120 (absArgs as69q d).1 (absArgs as69q d).2 (outM rs69q up69q) = s69q k d := by
  obtain ⟨_, _, _, _⟩ := d
  kernel_rfl
theorem F69q : FnOK Proofs.Try.prog R69q := fn_b (E := E69q) (A := A69q) (na := 0) (fn := Proofs.Try.f120) (S := s69q) (unpack := up69q) B69q (by kernel_rfl) (loopsOK_of (n := 1) (by kernel_rfl) fun i hi => match i, hi with | 0, _ => ⟨L69_0q, by kernel_rfl, lk69_0q⟩ | i + 1, hi => absurd hi (by omega)) (by kernel_rfl) (by kernel_rfl) (fun _ => rfl) ev69q

/-! ### giro/lim.isTurned -/
noncomputable def E70q : Env := ⟨Proofs.Try.prog, fun _ => false, sumsOf []⟩
def I70_0q : Spec := ⟨[(0, .c (.dat false (.sl (.int .i64)))), (3, .c (.int .i64)), (7, .c (.dat false (.sl (.int .i64)))), (8, .c (.int .i64)), (9, .c (.int .i64)), (14, .c (.dat false (.int .i64))), (15, .c (.int .i64)), (16, .c (.int .i64))], [], []⟩
def X0_70_0q : Spec := ⟨[(0, .c (.dat false (.sl (.int .i64)))), (7, .c (.dat false (.sl (.int .i64)))), (8, .c (.int .i64)), (9, .c (.int .i64))], [], []⟩
def X1_70_0q : Spec := ⟨[(2, .c (.bool))], [], []⟩
def O70_0q : List (Ex × Spec) := [(.exit 2, X0_70_0q), (.ret, X1_70_0q)]
def c70_0q (f : lim_isTurned_L1T) (d : I70_0q.den) : Option lim_isTurned_L1X := f d.1.1.1 d.1.2.1.1 d.1.2.2.1.1 d.1.2.2.2.1.1 d.1.2.2.2.2.1.1 d.1.2.2.2.2.2.1.1 d.1.2.2.2.2.2.2.1.1 d.1.2.2.2.2.2.2.2.1.1
def T70_0q : OutD O70_0q → lim_isTurned_L1X
 | .inl d => .inl (d.1.1.1, d.1.2.1.1, d.1.2.2.1.1, d.1.2.2.2.1.1)
 | .inr d => .inr d.1.1.1
def e70_0q (base : Nat) (x : lim_isTurned_L1X) (R : Type) (K : Ex → St → Option R) : Option R := match x with
 | .inl x => K (.exit 2) (stOf base X0_70_0q (((x.1, ()), (x.2.1, ()), (x.2.2.1, ()), (x.2.2.2, ()), ()), ()))
 | .inr x => K .ret (stOf base X1_70_0q (((x, ()), ()), ()))
def L70_0q : LoopSum := ⟨I70_0q, O70_0q, lim_isTurned_L1X, fun k d => c70_0q (lim_isTurned_L1 k k) d, e70_0q⟩
def I70_1q : Spec := ⟨[(0, .c (.dat false (.sl (.int .i64)))), (7, .c (.dat false (.sl (.int .i64)))), (8, .c (.int .i64)), (9, .c (.int .i64))], [], []⟩
def X0_70_1q : Spec := ⟨[], [], []⟩
def X1_70_1q : Spec := ⟨[(2, .c (.bool))], [], []⟩
def O70_1q : List (Ex × Spec) := [(.exit 0, X0_70_1q), (.ret, X1_70_1q)]
def c70_1q (f : lim_isTurned_L0T) (d : I70_1q.den) : Option (Unit ⊕ Bool) := f d.1.1.1 d.1.2.1.1 d.1.2.2.1.1 d.1.2.2.2.1.1
def T70_1q : OutD O70_1q → (Unit ⊕ Bool)
 | .inl d => .inl ()
 | .inr d => .inr d.1.1.1
def e70_1q (base : Nat) (x : (Unit ⊕ Bool)) (R : Type) (K : Ex → St → Option R) : Option R := match x with
 | .inl x => K (.exit 0) (stOf base X0_70_1q ((), ()))
 | .inr x => K .ret (stOf base X1_70_1q (((x, ()), ()), ()))
def L70_1q : LoopSum := ⟨I70_1q, O70_1q, (Unit ⊕ Bool), fun k d => c70_1q (lim_isTurned_L0 k k) d, e70_1q⟩
def A70q : Notes := ⟨[], [(5, L70_0q), (2, L70_1q)]⟩
theorem B70q : EnvB E70q := env_n mixed_orders trivial
theorem st70_0q (k : Nat) (rec : lim_isTurned_L1T) (d : I70_0q.den) : c70_0q (lim_isTurned_L1b k rec) d = evC E70q A70q k 1000 0 33 (loopAt (loopAt (bodyOf Proofs.Try.f124) 0) 0) (stOf (1000 + loopBase) I70_0q d) (roundK 1000 I70_0q O70_0q T70_0q (c70_0q rec)) := by
  obtain ⟨⟨⟨_, _⟩, ⟨_, _⟩, ⟨_, _⟩, ⟨_, _⟩, ⟨_, _⟩, ⟨_, _⟩, ⟨_, _⟩, ⟨_, _⟩, _⟩, _⟩ := d
  kernel_rfl
theorem lk70_0q : LoopOK Proofs.Try.prog 1000 0 33 (loopAt (loopAt (bodyOf Proofs.Try.f124) 0) 0) L70_0q :=
  loop_b (A := A70q) (inS := I70_0q) (outs := O70_0q) B70q (loopsOK_none (by kernel_rfl)) T70_0q e70_0q (by intro o R K; rcases o with o | o <;> rfl) (fun k n d => c70_0q (lim_isTurned_L1 k n) d) (fun _ _ => rfl) (fun k n d => st70_0q k (lim_isTurned_L1 k n) d)
theorem st70_1q (k : Nat) (rec : lim_isTurned_L0T) (d : I70_1q.den) : c70_1q (lim_isTurned_L0b k rec) d = evC E70q A70q k 1000 0 33 (loopAt (bodyOf Proofs.Try.f124) 0) (stOf (1000 + loopBase) I70_1q d) (roundK 1000 I70_1q O70_1q T70_1q (c70_1q rec)) := by
  obtain ⟨⟨⟨_, _⟩, ⟨_, _⟩, ⟨_, _⟩, ⟨_, _⟩, _⟩, _⟩ := d
  kernel_rfl
theorem lk70_1q : LoopOK Proofs.Try.prog 1000 0 33 (loopAt (bodyOf Proofs.Try.f124) 0) L70_1q :=
  loop_b (A := A70q) (inS := I70_1q) (outs := O70_1q) B70q (loopsOK_of (n := 1) (by kernel_rfl) fun i hi => match i, hi with | 0, _ => ⟨L70_0q, by kernel_rfl, lk70_0q⟩ | i + 1, hi => absurd hi (by omega)) T70_1q e70_1q (by intro o R K; rcases o with o | o <;> rfl) (fun k n d => c70_1q (lim_isTurned_L0 k n) d) (fun _ _ => rfl) (fun k n d => st70_1q k (lim_isTurned_L0 k n) d)
def as70q : List AS := [.c (.dat false (.sl (.int .i64)))]
def rs70q : RS := .c (.bool)
def pk70q : Bool → RL rs70q.cells := fun x => (x, ())
def up70q : RL rs70q.cells → Bool := fun d => d.1
def s70q (k : Nat) (d : AD as70q) := lim_isTurned k d.1
def R70q : Nat × Entry := (124, fun k nm args h => entry as70q rs70q (s70q k) pk70q nm args h)
theorem ev70q (k : Nat) (d : AD as70q) : evF E70q A70q k 1000 0 Proofs.Try.f124 (absArgs as70q d).1 (absArgs as70q d).2 (outM rs70q up70q) = s70q k d := by
  obtain ⟨_, _⟩ := d
  kernel_rfl
theorem F70q : FnOK Proofs.Try.prog R70q := fn_b (E := E70q) (A := A70q) (na := 0) (fn := Proofs.Try.f124) (S := s70q) (unpack := up70q) B70q (by kernel_rfl) (loopsOK_of (n := 1) (by kernel_rfl) fun i hi => match i, hi with | 0, _ => ⟨L70_1q, by kernel_rfl, lk70_1q⟩ | i + 1, hi => absurd hi (by omega)) (by kernel_rfl) (by kernel_rfl) (fun _ => rfl) ev70q

/-! ### giro/lim.Is -/
noncomputable def E71q : Env := ⟨Proofs.Try.prog, fun _ => false, sumsOf [R57q, R63q, R62q, R69q, R70q]⟩
def A71q : Notes := ⟨[], []⟩
theorem B71q : EnvB E71q := env_n mixed_orders ⟨F57q, F63q, F62q, F69q, F70q, trivial⟩
def as71q : List AS := [.agg [.dat false y5q, .dat false (.sl (.int .i64)), .dat false (.int .i64), .dat false (.sl (.int .i64))]]
def rs71q : RS := .c (.bool)
def pk71q : Bool → RL rs71q.cells := fun x => (x, ())
def up71q : RL rs71q.cells → Bool := fun d => d.1
def s71q (k : Nat) (d : AD as71q) := lim_Is k d.1 d.2.1 d.2.2.1 d.2.2.2.1
def R71q : Nat × Entry := (98, fun k nm args h => entry as71q rs71q (s71q k) pk71q nm args h)
theorem ev71q (k : Nat) (d : AD as71q) : evF E71q A71q k 1000 0 Proofs.Try.f98 (absArgs as71q d).1 (absArgs as71q d).2 (outM rs71q up71q) = s71q k d := by
  obtain ⟨_, _, _, _, _⟩ := d
  kernel_rfl
theorem F71q : FnOK Proofs.Try.prog R71q := fn_b (E := E71q) (A := A71q) (na := 0) (fn := Proofs.Try.f98) (S := s71q) (unpack := up71q) B71q (by kernel_rfl) (loopsOK_none (by kernel_rfl)) (by kernel_rfl) (by kernel_rfl) (fun _ => rfl) ev71q

/-! ### giro/post.Post -/
noncomputable def E72q : Env := ⟨Proofs.Try.prog, fun _ => false, sumsOf [R48q, R53q, R27q, R71q]⟩
def I72_0q : Spec := ⟨[(2, .c (.lit (.ptr 1001000 0))), (4, .c (.lit (.ptr 1001001 0))), (7, .c (.lit (.ptr 1001002 0))), (24, .c (.dat false y9q)), (25, .c (.int .i64)), (26, .c (.int .i64))], [.box true [.dat true y5q, .dat true (.sl (.int .i64)), .dat true (.int .i64), .dat true (.sl (.int .i64))], .box true [.lit .nsl, .lit .nsl, .lit .nsl, .lit .nsl], .box true [.lit (.osl 1001003 none), .lit (.osl 1001004 none), .lit (.osl 1001005 none), .lit (.osl 1001006 none)], .arr true y5q, .mat, .arr true (.int .i64), .mat], []⟩
def X0_72_0q : Spec := ⟨[(2, .c (.lit (.ptr 1001000 0))), (4, .c (.lit (.ptr 1001001 0))), (7, .c (.lit (.ptr 1001002 0)))], [.box true [.dat true y5q, .dat true (.sl (.int .i64)), .dat true (.int .i64), .dat true (.sl (.int .i64))], .box true [.lit .nsl, .lit .nsl, .lit .nsl, .lit .nsl], .box true [.lit (.osl 1001003 none), .lit (.osl 1001004 none), .lit (.osl 1001005 none), .lit (.osl 1001006 none)], .arr true y5q, .mat, .arr true (.int .i64), .mat], []⟩
def O72_0q : List (Ex × Spec) := [(.exit 0, X0_72_0q)]
def c72_0q (f : post_Post_L0T) (d : I72_0q.den) : Option post_Post_L0X := f d.1.2.2.2.1.1 d.1.2.2.2.2.1.1 d.1.2.2.2.2.2.1.1 d.2.1.1 d.2.1.2.1 d.2.1.2.2.1 d.2.1.2.2.2.1 d.2.2.2.2.1 d.2.2.2.2.2.1 d.2.2.2.2.2.2.1 d.2.2.2.2.2.2.2.1
def T72_0q : OutD O72_0q → post_Post_L0X := fun d => (d.2.1.1, d.2.1.2.1, d.2.1.2.2.1, d.2.1.2.2.2.1, d.2.2.2.2.1, d.2.2.2.2.2.1, d.2.2.2.2.2.2.1, d.2.2.2.2.2.2.2.1)
def e72_0q (base : Nat) (x : post_Post_L0X) (R : Type) (K : Ex → St → Option R) : Option R := K (.exit 0) (stOf base X0_72_0q (((), (), (), ()), ((x.1, x.2.1, x.2.2.1, x.2.2.2.1, ()), (), (), x.2.2.2.2.1, x.2.2.2.2.2.1, x.2.2.2.2.2.2.1, x.2.2.2.2.2.2.2, ())))
def L72_0q : LoopSum := ⟨I72_0q, O72_0q, post_Post_L0X, fun k d => c72_0q (post_Post_L0 k k) d, e72_0q⟩
def A72q : Notes := ⟨[], [(6, L72_0q)]⟩
theorem B72q : EnvB E72q := env_n mixed_orders ⟨F48q, F53q, F27q, F71q, trivial⟩
theorem st72_0q (k : Nat) (rec : post_Post_L0T) (d : I72_0q.den) : c72_0q (post_Post_L0b k rec) d = evC E72q A72q k 1000 0 104 (loopAt (bodyOf Proofs.Try.f53) 0) (stOf (1000 + loopBase) I72_0q d) (roundK 1000 I72_0q O72_0q T72_0q (c72_0q rec)) := by
  obtain ⟨⟨_, _, _, ⟨_, _⟩, ⟨_, _⟩, ⟨_, _⟩, _⟩, ⟨⟨_, _, _, _, _⟩, _, _, _, _, _, _, _⟩⟩ := d
  kernel_rfl
theorem lk72_0q : LoopOK Proofs.Try.prog 1000 0 104 (loopAt (bodyOf Proofs.Try.f53) 0) L72_0q :=
  loop_b (A := A72q) (inS := I72_0q) (outs := O72_0q) B72q (loopsOK_none (by kernel_rfl)) T72_0q e72_0q (fun _ _ _ => rfl) (fun k n d => c72_0q (post_Post_L0 k n) d) (fun _ _ => rfl) (fun k n d => st72_0q k (post_Post_L0 k n) d)
def as72q : List AS := [.agg [.dat true y5q, .dat true (.sl (.int .i64)), .dat true (.int .i64), .dat true (.sl (.int .i64))], .c (.dat false y9q)]
def rs72q : RS := .tup [(true, [.fro y5q, .fro (.sl (.int .i64)), .fro (.int .i64), .fro (.sl (.int .i64))]), (false, [.int .i64])]
def pk72q : (List K3q) × (List (List Int)) × (List Int) × (List (List Int)) × Int → RL rs72q.cells := fun x => (x.1, x.2.1, x.2.2.1, x.2.2.2.1, x.2.2.2.2, ())
def up72q : RL rs72q.cells → (List K3q) × (List (List Int)) × (List Int) × (List (List Int)) × Int := fun d => (d.1, d.2.1, d.2.2.1, d.2.2.2.1, d.2.2.2.2.1)
def s72q (k : Nat) (d : AD as72q) := post_Post k d.1 d.2.1 d.2.2.1 d.2.2.2.1 d.2.2.2.2.1
def R72q : Nat × Entry := (53, fun k nm args h => entry as72q rs72q (s72q k) pk72q nm args h)
theorem ev72q (k : Nat) (d : AD as72q) : evF E72q A72q k 1000 0 Proofs.Try.f53 (absArgs as72q d).1 (absArgs as72q d).2 (outM rs72q up72q) = s72q k d := by
  obtain ⟨_, _, _, _, _, _⟩ := d
  kernel_rfl
theorem F72q : FnOK Proofs.Try.prog R72q := fn_b (E := E72q) (A := A72q) (na := 0) (fn := Proofs.Try.f53) (S := s72q) (unpack := up72q) B72q (by kernel_rfl) (loopsOK_of (n := 1) (by kernel_rfl) fun i hi => match i, hi with | 0, _ => ⟨L72_0q, by kernel_rfl, lk72_0q⟩ | i + 1, hi => absurd hi (by omega)) (by kernel_rfl) (by kernel_rfl) (fun _ => rfl) ev72q

/-! ### giro/row.Find$1 -/
noncomputable def E73q : Env := ⟨Proofs.Try.prog, fun _ => false, sumsOf []⟩
def A73q : Notes := ⟨[], []⟩
theorem B73q : EnvB E73q := env_n mixed_orders trivial
def as73q : List AS := [.agg [.int .i64, .int .i64, .int .i64, .int .i64, .int .i64, .int .i64, .int .i64], .ptr [.int .i64]]
def rs73q : RS := .c (.bool)
def pk73q : Bool → RL rs73q.cells := fun x => (x, ())
def up73q : RL rs73q.cells → Bool := fun d => d.1
def s73q (k : Nat) (d : AD as73q) := row_Find_fn1 k d.1 d.2.1 d.2.2.1 d.2.2.2.1 d.2.2.2.2.1 d.2.2.2.2.2.1 d.2.2.2.2.2.2.1 d.2.2.2.2.2.2.2.1
def R73q : Nat × Entry := (125, fun k nm args h => entry as73q rs73q (s73q k) pk73q nm args h)
theorem ev73q (k : Nat) (d : AD as73q) : evF E73q A73q k 1000 0 Proofs.Try.f125 (absArgs as73q d).1 (absArgs as73q d).2 (outM rs73q up73q) = s73q k d := by
  obtain ⟨_, _, _, _, _, _, _, _, _⟩ := d
  kernel_rfl
theorem F73q : FnOK Proofs.Try.prog R73q := fn_b (E := E73q) (A := A73q) (na := 0) (fn := Proofs.Try.f125) (S := s73q) (unpack := up73q) B73q (by kernel_rfl) (loopsOK_none (by kernel_rfl)) (by kernel_rfl) (by kernel_rfl) (fun _ => rfl) ev73q

/-! ### slices.IndexFunc[[]giro/api.Pay,giro/api.Pay] -/
noncomputable def E74q : Env := ⟨Proofs.Try.prog, fun _ => false, sumsOf [R73q]⟩
def I74_0q : Spec := ⟨[(0, .c (.dat false y9q)), (1, .c (.lit (.fn 125 [1001000]))), (7, .c (.int .i64)), (8, .c (.int .i64))], [.robox [.int .i64]], []⟩
def X0_74_0q : Spec := ⟨[], [], []⟩
def X1_74_0q : Spec := ⟨[(4, .c (.int .i64))], [], []⟩
def O74_0q : List (Ex × Spec) := [(.exit 0, X0_74_0q), (.ret, X1_74_0q)]
def c74_0q (f : slices_IndexFunc_Pay__row_Find_fn1_L0T) (d : I74_0q.den) : Option (Unit ⊕ Int) := f d.1.1.1 d.1.2.2.1.1 d.1.2.2.2.1.1 d.2.1.1
def T74_0q : OutD O74_0q → (Unit ⊕ Int)
 | .inl d => .inl ()
 | .inr d => .inr d.1.1.1
def e74_0q (base : Nat) (x : (Unit ⊕ Int)) (R : Type) (K : Ex → St → Option R) : Option R := match x with
 | .inl x => K (.exit 0) (stOf base X0_74_0q ((), ()))
 | .inr x => K .ret (stOf base X1_74_0q (((x, ()), ()), ()))
def L74_0q : LoopSum := ⟨I74_0q, O74_0q, (Unit ⊕ Int), fun k d => c74_0q (slices_IndexFunc_Pay__row_Find_fn1_L0 k k) d, e74_0q⟩
def A74q : Notes := ⟨[], [(2, L74_0q)]⟩
theorem B74q : EnvB E74q := env_n mixed_orders ⟨F73q, trivial⟩
theorem st74_0q (k : Nat) (rec : slices_IndexFunc_Pay__row_Find_fn1_L0T) (d : I74_0q.den) : c74_0q (slices_IndexFunc_Pay__row_Find_fn1_L0b k rec) d = evC E74q A74q k 1000 0 19 (loopAt (bodyOf Proofs.Try.f109) 0) (stOf (1000 + loopBase) I74_0q d) (roundK 1000 I74_0q O74_0q T74_0q (c74_0q rec)) := by
  obtain ⟨⟨⟨_, _⟩, _, ⟨_, _⟩, ⟨_, _⟩, _⟩, ⟨⟨_, _⟩, _⟩⟩ := d
  kernel_rfl
theorem lk74_0q : LoopOK Proofs.Try.prog 1000 0 19 (loopAt (bodyOf Proofs.Try.f109) 0) L74_0q :=
  loop_b (A := A74q) (inS := I74_0q) (outs := O74_0q) B74q (loopsOK_none (by kernel_rfl)) T74_0q e74_0q (by intro o R K; rcases o with o | o <;> rfl) (fun k n d => c74_0q (slices_IndexFunc_Pay__row_Find_fn1_L0 k n) d) (fun _ _ => rfl) (fun k n d => st74_0q k (slices_IndexFunc_Pay__row_Find_fn1_L0 k n) d)
def as74q : List AS := [.c (.dat false y9q), .fn 125 [[.int .i64]]]
def rs74q : RS := .c (.int .i64)
def pk74q : Int → RL rs74q.cells := fun x => (x, ())
def up74q : RL rs74q.cells → Int := fun d => d.1
def s74q (k : Nat) (d : AD as74q) := slices_IndexFunc_Pay__row_Find_fn1 k d.1 d.2.1
def R74q : Nat × Entry := (109, fun k nm args h => entry as74q rs74q (s74q k) pk74q nm args h)
theorem ev74q (k : Nat) (d : AD as74q) : evF E74q A74q k 1000 0 Proofs.Try.f109 (absArgs as74q d).1 (absArgs as74q d).2 (outM rs74q up74q) = s74q k d := by
  obtain ⟨_, _, _⟩ := d
  kernel_rfl
theorem F74q : FnOK Proofs.Try.prog R74q := fn_b (E := E74q) (A := A74q) (na := 0) (fn := Proofs.Try.f109) (S := s74q) (unpack := up74q) B74q (by kernel_rfl) (loopsOK_of (n := 1) (by kernel_rfl) fun i hi => match i, hi with | 0, _ => ⟨L74_0q, by kernel_rfl, lk74_0q⟩ | i + 1, hi => absurd hi (by omega)) (by kernel_rfl) (by kernel_rfl) (fun _ => rfl) ev74q

/-! ### giro/row.Find -/
noncomputable def E75q : Env := ⟨Proofs.Try.prog, fun _ => false, sumsOf [R74q]⟩
def A75q : Notes := ⟨[], []⟩
theorem B75q : EnvB E75q := env_n mixed_orders ⟨F74q, trivial⟩
def as75q : List AS := [.c (.dat false y9q), .c (.int .i64)]
def rs75q : RS := .c (.int .i64)
def pk75q : Int → RL rs75q.cells := fun x => (x, ())
def up75q : RL rs75q.cells → Int := fun d => d.1
def s75q (k : Nat) (d : AD as75q) := row_Find k d.1 d.2.1
def R75q : Nat × Entry := (99, fun k nm args h => entry as75q rs75q (s75q k) pk75q nm args h)
theorem ev75q (k : Nat) (d : AD as75q) : evF E75q A75q k 1000 0 Proofs.Try.f99 (absArgs as75q d).1 (absArgs as75q d).2 (outM rs75q up75q) = s75q k d := by
  obtain ⟨_, _, _⟩ := d
  kernel_rfl
theorem F75q : FnOK Proofs.Try.prog R75q := fn_b (E := E75q) (A := A75q) (na := 0) (fn := Proofs.Try.f99) (S := s75q) (unpack := up75q) B75q (by kernel_rfl) (loopsOK_none (by kernel_rfl)) (by kernel_rfl) (by kernel_rfl) (fun _ => rfl) ev75q

/-! ### slices.Clone[[]giro/api.Pay,giro/api.Pay] -/
noncomputable def E76q : Env := ⟨Proofs.Try.prog, fun _ => false, sumsOf []⟩
def A76q : Notes := ⟨[], []⟩
theorem B76q : EnvB E76q := env_n mixed_orders trivial
def as76q : List AS := [.c (.dat false y9q)]
def rs76q : RS := .c (.own y9q)
def pk76q : List K2q → RL rs76q.cells := fun x => (x, ())
def up76q : RL rs76q.cells → List K2q := fun d => d.1
def s76q (k : Nat) (d : AD as76q) := slices_Clone_Pay k d.1
def R76q : Nat × Entry := (101, fun k nm args h => entry as76q rs76q (fun d => slices_Clone_Pay k d.1) pk76q nm args h)
theorem nil76q (k : Nat) : evF E76q A76q k 1000 0 Proofs.Try.f101 [.c .nsl] (boxHp []) (outM rs76q up76q) = slices_Clone_Pay k [] := by kernel_rfl
theorem ev76q (k : Nat) (xs : List K2q) : evF E76q A76q k 1000 0 Proofs.Try.f101 [.c (.nfl false y9q xs)] (boxHp []) (outM rs76q up76q) = slices_Clone_Pay k xs := by kernel_rfl
theorem F76q : FnOK Proofs.Try.prog R76q := fn_nil (E := E76q) (A := A76q) (na := 0) (fn := Proofs.Try.f101) (t := y9q) (S := slices_Clone_Pay) (unpack := up76q) B76q (by kernel_rfl) (loopsOK_none (by kernel_rfl)) (by kernel_rfl) (by kernel_rfl) (fun _ => rfl) (fun k x hx => (nil76q k).trans hx) (fun k xs x hx => (ev76q k xs).trans hx)

/-! ### slices.Delete[[]giro/api.Pay,giro/api.Pay] -/
noncomputable def E77q : Env := ⟨Proofs.Try.prog, fun _ => false, sumsOf []⟩
def A77q : Notes := ⟨[], []⟩
theorem B77q : EnvB E77q := env_n mixed_orders trivial
def as77q : List AX := [.c (.own y9q), .c (.p (.int .i64)), .c (.p (.int .i64))]
def rs77q : RS := .c (.own y9q)
def os77q : List (List RC) := []
def pk77q : List K2q → RL (rs77q.cells ++ os77q.flatten) := fun x => (x, ())
def up77q : RL (rs77q.cells ++ os77q.flatten) → List K2q := fun d => d.1
def s77q (k : Nat) (d : XD as77q) := slices_Delete_Pay k d.1 d.2.1 d.2.2.1
def R77q : Nat × Entry := (100, fun k nm args h => entryX as77q rs77q os77q (s77q k) pk77q nm args h)
theorem ev77q (k : Nat) (d : XD as77q) : evF E77q A77q k 1000 0 Proofs.Try.f100 (absArgsX as77q d).1 (absArgsX as77q d).2 (outXM as77q rs77q os77q up77q) = s77q k d := by
  obtain ⟨_, _, _, _⟩ := d
  kernel_rfl
theorem F77q : FnOK Proofs.Try.prog R77q := fn_x (E := E77q) (A := A77q) (na := 0) (fn := Proofs.Try.f100) (S := s77q) (unpack := up77q) B77q (by kernel_rfl) (loopsOK_none (by kernel_rfl)) (by kernel_rfl) (by kernel_rfl) (fun _ => rfl) (by kernel_rfl) ev77q

/-! ### giro/row.Drop -/
noncomputable def E78q : Env := ⟨Proofs.Try.prog, fun _ => false, sumsOf [R75q, R76q, R77q]⟩
def A78q : Notes := ⟨[], []⟩
theorem B78q : EnvB E78q := env_n mixed_orders ⟨F75q, F76q, F77q, trivial⟩
def as78q : List AS := [.c (.dat true y9q), .c (.int .i64)]
def rs78q : RS := .tup [(false, [.fro y9q]), (true, [.int .i64, .int .i64, .int .i64, .int .i64, .int .i64, .int .i64, .int .i64]), (false, [.int .i64])]
def pk78q : (List K2q) × Int × Int × Int × Int × Int × Int × Int × Int → RL rs78q.cells := fun x => (x.1, x.2.1, x.2.2.1, x.2.2.2.1, x.2.2.2.2.1, x.2.2.2.2.2.1, x.2.2.2.2.2.2.1, x.2.2.2.2.2.2.2.1, x.2.2.2.2.2.2.2.2, ())
def up78q : RL rs78q.cells → (List K2q) × Int × Int × Int × Int × Int × Int × Int × Int := fun d => (d.1, d.2.1, d.2.2.1, d.2.2.2.1, d.2.2.2.2.1, d.2.2.2.2.2.1, d.2.2.2.2.2.2.1, d.2.2.2.2.2.2.2.1, d.2.2.2.2.2.2.2.2.1)
def s78q (k : Nat) (d : AD as78q) := row_Drop k d.1 d.2.1
def R78q : Nat × Entry := (54, fun k nm args h => entry as78q rs78q (s78q k) pk78q nm args h)
theorem ev78q (k : Nat) (d : AD as78q) : evF E78q A78q k 1000 0 Proofs.Try.f54 (absArgs as78q d).1 (absArgs as78q d).2 (outM rs78q up78q) = s78q k d := by
  obtain ⟨_, _, _⟩ := d
  kernel_rfl
theorem F78q : FnOK Proofs.Try.prog R78q := fn_b (E := E78q) (A := A78q) (na := 0) (fn := Proofs.Try.f54) (S := s78q) (unpack := up78q) B78q (by kernel_rfl) (loopsOK_none (by kernel_rfl)) (by kernel_rfl) (by kernel_rfl) (fun _ => rfl) ev78q

/-! ### giro/knot.Run -/
noncomputable def E79q : Env := ⟨Proofs.Try.prog, fun _ => false, sumsOf [R33q, R10q, R17q, R72q, R78q]⟩
def I79_0q : Spec := ⟨[(6, .c (.lit (.ptr 1001000 0))), (7, .c (.dat true y9q)), (11, .c (.lit (.osl 1001001 none))), (38, .c (.lit (.osl 1001001 none))), (39, .c (.int .i64)), (40, .c (.int .i64))], [.box true [.dat true y5q, .dat true (.sl (.int .i64)), .dat true (.int .i64), .dat true (.sl (.int .i64))], .arr true y9q], []⟩
def X0_79_0q : Spec := ⟨[(6, .c (.lit (.ptr 1001000 0))), (7, .c (.dat true y9q)), (11, .c (.lit (.osl 1001001 none)))], [.box true [.dat true y5q, .dat true (.sl (.int .i64)), .dat true (.int .i64), .dat true (.sl (.int .i64))], .arr true y9q], []⟩
def O79_0q : List (Ex × Spec) := [(.exit 0, X0_79_0q)]
def c79_0q (f : knot_Run_L0T) (d : I79_0q.den) : Option knot_Run_L0X := f d.1.2.1.1 d.1.2.2.2.2.1.1 d.1.2.2.2.2.2.1.1 d.2.1.1 d.2.1.2.1 d.2.1.2.2.1 d.2.1.2.2.2.1 d.2.2.1
def T79_0q : OutD O79_0q → knot_Run_L0X := fun d => (d.1.2.1.1, d.2.1.1, d.2.1.2.1, d.2.1.2.2.1, d.2.1.2.2.2.1, d.2.2.1)
def e79_0q (base : Nat) (x : knot_Run_L0X) (R : Type) (K : Ex → St → Option R) : Option R := K (.exit 0) (stOf base X0_79_0q (((), (x.1, ()), (), ()), ((x.2.1, x.2.2.1, x.2.2.2.1, x.2.2.2.2.1, ()), x.2.2.2.2.2, ())))
def L79_0q : LoopSum := ⟨I79_0q, O79_0q, knot_Run_L0X, fun k d => c79_0q (knot_Run_L0 k k) d, e79_0q⟩
def A79q : Notes := ⟨[], [(8, L79_0q)]⟩
theorem B79q : EnvB E79q := env_n mixed_orders ⟨F33q, F10q, F17q, F72q, F78q, trivial⟩
theorem st79_0q (k : Nat) (rec : knot_Run_L0T) (d : I79_0q.den) : c79_0q (knot_Run_L0b k rec) d = evC E79q A79q k 1000 0 56 (loopAt (bodyOf Proofs.Try.f17) 0) (stOf (1000 + loopBase) I79_0q d) (roundK 1000 I79_0q O79_0q T79_0q (c79_0q rec)) := by
  obtain ⟨⟨_, ⟨_, _⟩, _, _, ⟨_, _⟩, ⟨_, _⟩, _⟩, ⟨⟨_, _, _, _, _⟩, _, _⟩⟩ := d
  kernel_rfl
theorem lk79_0q : LoopOK Proofs.Try.prog 1000 0 56 (loopAt (bodyOf Proofs.Try.f17) 0) L79_0q :=
  loop_b (A := A79q) (inS := I79_0q) (outs := O79_0q) B79q (loopsOK_none (by kernel_rfl)) T79_0q e79_0q (fun _ _ _ => rfl) (fun k n d => c79_0q (knot_Run_L0 k n) d) (fun _ _ => rfl) (fun k n d => st79_0q k (knot_Run_L0 k n) d)
def as79q : List AS := [.agg [.dat true y5q, .dat true (.sl (.int .i64)), .dat true (.int .i64), .dat true (.sl (.int .i64))], .c (.dat true y9q), .c (.int .i64)]
def rs79q : RS := .tup [(true, [.fro y5q, .fro (.sl (.int .i64)), .fro (.int .i64), .fro (.sl (.int .i64))]), (false, [.fro y9q]), (false, [.own y9q])]
def pk79q : (List K3q) × (List (List Int)) × (List Int) × (List (List Int)) × (List K2q) × (List K2q) → RL rs79q.cells := fun x => (x.1, x.2.1, x.2.2.1, x.2.2.2.1, x.2.2.2.2.1, x.2.2.2.2.2, ())
def up79q : RL rs79q.cells → (List K3q) × (List (List Int)) × (List Int) × (List (List Int)) × (List K2q) × (List K2q) := fun d => (d.1, d.2.1, d.2.2.1, d.2.2.2.1, d.2.2.2.2.1, d.2.2.2.2.2.1)
def s79q (k : Nat) (d : AD as79q) := knot_Run k d.1 d.2.1 d.2.2.1 d.2.2.2.1 d.2.2.2.2.1 d.2.2.2.2.2.1
def R79q : Nat × Entry := (17, fun k nm args h => entry as79q rs79q (s79q k) pk79q nm args h)
theorem ev79q (k : Nat) (d : AD as79q) : evF E79q A79q k 1000 0 Proofs.Try.f17 (absArgs as79q d).1 (absArgs as79q d).2 (outM rs79q up79q) = s79q k d := by
  obtain ⟨_, _, _, _, _, _, _⟩ := d
  kernel_rfl
theorem F79q : FnOK Proofs.Try.prog R79q := fn_b (E := E79q) (A := A79q) (na := 0) (fn := Proofs.Try.f17) (S := s79q) (unpack := up79q) B79q (by kernel_rfl) (loopsOK_of (n := 1) (by kernel_rfl) fun i hi => match i, hi with | 0, _ => ⟨L79_0q, by kernel_rfl, lk79_0q⟩ | i + 1, hi => absurd hi (by omega)) (by kernel_rfl) (by kernel_rfl) (fun _ => rfl) ev79q

/-! ### giro/view.May$1$1 -/
noncomputable def E110q : Env := ⟨Proofs.Try.prog, fun _ => false, sumsOf []⟩
def A110q : Notes := ⟨[], []⟩
theorem B110q : EnvB E110q := env_n mixed_orders trivial
def as110q : List AS := [.agg [.int .i64, .int .i64, .int .i64, .int .i64, .int .i64, .int .i64, .int .i64], .ptr [.int .i64, .int .i64, .int .i64, .int .i64, .int .i64, .int .i64, .int .i64]]
def rs110q : RS := .c (.bool)
def pk110q : Bool → RL rs110q.cells := fun x => (x, ())
def up110q : RL rs110q.cells → Bool := fun d => d.1
def s110q (k : Nat) (d : AD as110q) := view_May_fn1_fn1 k d.1 d.2.1 d.2.2.1 d.2.2.2.1 d.2.2.2.2.1 d.2.2.2.2.2.1 d.2.2.2.2.2.2.1 d.2.2.2.2.2.2.2.1 d.2.2.2.2.2.2.2.2.1 d.2.2.2.2.2.2.2.2.2.1 d.2.2.2.2.2.2.2.2.2.2.1 d.2.2.2.2.2.2.2.2.2.2.2.1 d.2.2.2.2.2.2.2.2.2.2.2.2.1 d.2.2.2.2.2.2.2.2.2.2.2.2.2.1
def R110q : Nat × Entry := (137, fun k nm args h => entry as110q rs110q (s110q k) pk110q nm args h)
theorem ev110q (k : Nat) (d : AD as110q) : evF E110q A110q k 1000 0 Proofs.Try.f137 (absArgs as110q d).1 (absArgs as110q d).2 (outM rs110q up110q) = s110q k d := by
  obtain ⟨_, _, _, _, _, _, _, _, _, _, _, _, _, _, _⟩ := d
  kernel_rfl
theorem F110q : FnOK Proofs.Try.prog R110q := fn_b (E := E110q) (A := A110q) (na := 0) (fn := Proofs.Try.f137) (S := s110q) (unpack := up110q) B110q (by kernel_rfl) (loopsOK_none (by kernel_rfl)) (by kernel_rfl) (by kernel_rfl) (fun _ => rfl) ev110q

/-! ### slices.IndexFunc[[]giro/api.Pay,giro/api.Pay] -/
noncomputable def E111q : Env := ⟨Proofs.Try.prog, fun _ => false, sumsOf [R110q]⟩
def I111_0q : Spec := ⟨[(0, .c (.dat false y9q)), (1, .c (.lit (.fn 137 [1001000]))), (7, .c (.int .i64)), (8, .c (.int .i64))], [.robox [.int .i64, .int .i64, .int .i64, .int .i64, .int .i64, .int .i64, .int .i64]], []⟩
def X0_111_0q : Spec := ⟨[], [], []⟩
def X1_111_0q : Spec := ⟨[(4, .c (.int .i64))], [], []⟩
def O111_0q : List (Ex × Spec) := [(.exit 0, X0_111_0q), (.ret, X1_111_0q)]
def c111_0q (f : slices_IndexFunc_Pay__view_May_fn1_fn1_L0T) (d : I111_0q.den) : Option (Unit ⊕ Int) := f d.1.1.1 d.1.2.2.1.1 d.1.2.2.2.1.1 d.2.1.1 d.2.1.2.1 d.2.1.2.2.1 d.2.1.2.2.2.1 d.2.1.2.2.2.2.1 d.2.1.2.2.2.2.2.1 d.2.1.2.2.2.2.2.2.1
def T111_0q : OutD O111_0q → (Unit ⊕ Int)
 | .inl d => .inl ()
 | .inr d => .inr d.1.1.1
def e111_0q (base : Nat) (x : (Unit ⊕ Int)) (R : Type) (K : Ex → St → Option R) : Option R := match x with
 | .inl x => K (.exit 0) (stOf base X0_111_0q ((), ()))
 | .inr x => K .ret (stOf base X1_111_0q (((x, ()), ()), ()))
def L111_0q : LoopSum := ⟨I111_0q, O111_0q, (Unit ⊕ Int), fun k d => c111_0q (slices_IndexFunc_Pay__view_May_fn1_fn1_L0 k k) d, e111_0q⟩
def A111q : Notes := ⟨[], [(2, L111_0q)]⟩
theorem B111q : EnvB E111q := env_n mixed_orders ⟨F110q, trivial⟩
theorem st111_0q (k : Nat) (rec : slices_IndexFunc_Pay__view_May_fn1_fn1_L0T) (d : I111_0q.den) : c111_0q (slices_IndexFunc_Pay__view_May_fn1_fn1_L0b k rec) d = evC E111q A111q k 1000 0 19 (loopAt (bodyOf Proofs.Try.f109) 0) (stOf (1000 + loopBase) I111_0q d) (roundK 1000 I111_0q O111_0q T111_0q (c111_0q rec)) := by
  obtain ⟨⟨⟨_, _⟩, _, ⟨_, _⟩, ⟨_, _⟩, _⟩, ⟨⟨_, _, _, _, _, _, _, _⟩, _⟩⟩ := d
  kernel_rfl
theorem lk111_0q : LoopOK Proofs.Try.prog 1000 0 19 (loopAt (bodyOf Proofs.Try.f109) 0) L111_0q :=
  loop_b (A := A111q) (inS := I111_0q) (outs := O111_0q) B111q (loopsOK_none (by kernel_rfl)) T111_0q e111_0q (by intro o R K; rcases o with o | o <;> rfl) (fun k n d => c111_0q (slices_IndexFunc_Pay__view_May_fn1_fn1_L0 k n) d) (fun _ _ => rfl) (fun k n d => st111_0q k (slices_IndexFunc_Pay__view_May_fn1_fn1_L0 k n) d)
def as111q : List AS := [.c (.dat false y9q), .fn 137 [[.int .i64, .int .i64, .int .i64, .int .i64, .int .i64, .int .i64, .int .i64]]]
def rs111q : RS := .c (.int .i64)
def pk111q : Int → RL rs111q.cells := fun x => (x, ())
def up111q : RL rs111q.cells → Int := fun d => d.1
def s111q (k : Nat) (d : AD as111q) := slices_IndexFunc_Pay__view_May_fn1_fn1 k d.1 d.2.1 d.2.2.1 d.2.2.2.1 d.2.2.2.2.1 d.2.2.2.2.2.1 d.2.2.2.2.2.2.1 d.2.2.2.2.2.2.2.1
def R111q : Nat × Entry := (109, fun k nm args h => entry as111q rs111q (s111q k) pk111q nm args h)
theorem ev111q (k : Nat) (d : AD as111q) : evF E111q A111q k 1000 0 Proofs.Try.f109 (absArgs as111q d).1 (absArgs as111q d).2 (outM rs111q up111q) = s111q k d := by
  obtain ⟨_, _, _, _, _, _, _, _, _⟩ := d
  kernel_rfl
theorem F111q : FnOK Proofs.Try.prog R111q := fn_b (E := E111q) (A := A111q) (na := 0) (fn := Proofs.Try.f109) (S := s111q) (unpack := up111q) B111q (by kernel_rfl) (loopsOK_of (n := 1) (by kernel_rfl) fun i hi => match i, hi with | 0, _ => ⟨L111_0q, by kernel_rfl, lk111_0q⟩ | i + 1, hi => absurd hi (by omega)) (by kernel_rfl) (by kernel_rfl) (fun _ => rfl) ev111q

/-! ### slices.ContainsFunc[[]giro/api.Pay,giro/api.Pay] -/
noncomputable def E112q : Env := ⟨Proofs.Try.prog, fun _ => false, sumsOf [R111q]⟩
def A112q : Notes := ⟨[], []⟩
theorem B112q : EnvB E112q := env_n mixed_orders ⟨F111q, trivial⟩
def as112q : List AS := [.c (.dat false y9q), .fn 137 [[.int .i64, .int .i64, .int .i64, .int .i64, .int .i64, .int .i64, .int .i64]]]
def rs112q : RS := .c (.bool)
def pk112q : Bool → RL rs112q.cells := fun x => (x, ())
def up112q : RL rs112q.cells → Bool := fun d => d.1
def s112q (k : Nat) (d : AD as112q) := slices_ContainsFunc_Pay__view_May_fn1_fn1 k d.1 d.2.1 d.2.2.1 d.2.2.2.1 d.2.2.2.2.1 d.2.2.2.2.2.1 d.2.2.2.2.2.2.1 d.2.2.2.2.2.2.2.1
def R112q : Nat × Entry := (88, fun k nm args h => entry as112q rs112q (s112q k) pk112q nm args h)
theorem ev112q (k : Nat) (d : AD as112q) : evF E112q A112q k 1000 0 Proofs.Try.f88 (absArgs as112q d).1 (absArgs as112q d).2 (outM rs112q up112q) = s112q k d := by
  obtain ⟨_, _, _, _, _, _, _, _, _⟩ := d
  kernel_rfl
theorem F112q : FnOK Proofs.Try.prog R112q := fn_b (E := E112q) (A := A112q) (na := 0) (fn := Proofs.Try.f88) (S := s112q) (unpack := up112q) B112q (by kernel_rfl) (loopsOK_none (by kernel_rfl)) (by kernel_rfl) (by kernel_rfl) (fun _ => rfl) ev112q

/-! ### giro/view.May$1 -/
noncomputable def E113q : Env := ⟨Proofs.Try.prog, fun _ => false, sumsOf [R112q]⟩
def A113q : Notes := ⟨[], []⟩
theorem B113q : EnvB E113q := env_n mixed_orders ⟨F112q, trivial⟩
def as113q : List AX := [.agg [.int .i64, .int .i64, .int .i64, .int .i64, .int .i64, .int .i64, .int .i64], .ptr true [.map], .ptr false [.p (.dat false y9q)]]
def rs113q : RS := .c (.bool)
def os113q : List (List RC) := [[.map]]
def pk113q : Bool × (List (Int × Bool)) → RL (rs113q.cells ++ os113q.flatten) := fun x => (x.1, x.2, ())
def up113q : RL (rs113q.cells ++ os113q.flatten) → Bool × (List (Int × Bool)) := fun d => (d.1, d.2.1)
def s113q (k : Nat) (d : XD as113q) := view_May_fn1 k d.1 d.2.1 d.2.2.1 d.2.2.2.1 d.2.2.2.2.1 d.2.2.2.2.2.1 d.2.2.2.2.2.2.1 d.2.2.2.2.2.2.2.1 d.2.2.2.2.2.2.2.2.1
def R113q : Nat × Entry := (136, fun k nm args h => entryX as113q rs113q os113q (s113q k) pk113q nm args h)
theorem ev113q (k : Nat) (d : XD as113q) : evF E113q A113q k 1000 3 Proofs.Try.f136 (absArgsX as113q d).1 (absArgsX as113q d).2 (outXM as113q rs113q os113q up113q) = s113q k d := by
  obtain ⟨_, _, _, _, _, _, _, _, _, _⟩ := d
  kernel_rfl
theorem F113q : FnOK Proofs.Try.prog R113q := fn_x (E := E113q) (A := A113q) (na := 3) (fn := Proofs.Try.f136) (S := s113q) (unpack := up113q) B113q (by kernel_rfl) (loopsOK_none (by kernel_rfl)) (by kernel_rfl) (by kernel_rfl) (fun _ => rfl) (by kernel_rfl) ev113q

/-! ### giro/view.all -/
noncomputable def E114q : Env := ⟨Proofs.Try.prog, fun _ => false, sumsOf [R113q]⟩
def I114_0q : Spec := ⟨[(1, .c (.lit (.fn 136 [1001000, 1001002]))), (5, .c (.lit (.osl 1001003 none))), (8, .c (.dat false y9q)), (9, .c (.int .i64)), (10, .c (.int .i64))], [.box true [.lit (.map 1001001)], .imap, .robox [.dat false y9q], .arr true y9q], [(5, none, y9q, false)]⟩
def X0_114_0q : Spec := ⟨[(1, .c (.lit (.fn 136 [1001000, 1001002]))), (5, .c (.lit (.osl 1001003 none)))], [.box true [.lit (.map 1001001)], .imap, .robox [.dat false y9q], .arr true y9q], []⟩
def O114_0q : List (Ex × Spec) := [(.exit 0, X0_114_0q)]
def c114_0q (f : view_all__view_May_fn1_L0T) (d : I114_0q.den) : Option view_all__view_May_fn1_L0X := f d.1.2.2.1.1 d.1.2.2.2.1.1 d.1.2.2.2.2.1.1 d.2.2.1 d.2.2.2.1.1 d.2.2.2.2.1
def T114_0q : OutD O114_0q → view_all__view_May_fn1_L0X := fun d => (d.2.2.1, d.2.2.2.1.1, d.2.2.2.2.1)
def e114_0q (base : Nat) (x : view_all__view_May_fn1_L0X) (R : Type) (K : Ex → St → Option R) : Option R := K (.exit 0) (stOf base X0_114_0q (((), (), ()), ((), x.1, (x.2.1, ()), x.2.2, ())))
def L114_0q : LoopSum := ⟨I114_0q, O114_0q, view_all__view_May_fn1_L0X, fun k d => c114_0q (view_all__view_May_fn1_L0 k k) d, e114_0q⟩
def A114q : Notes := ⟨[], [(3, L114_0q)]⟩
theorem B114q : EnvB E114q := env_n mixed_orders ⟨F113q, trivial⟩
theorem st114_0q (k : Nat) (rec : view_all__view_May_fn1_L0T) (d : I114_0q.den) : c114_0q (view_all__view_May_fn1_L0b k rec) d = evC E114q A114q k 1000 2 23 (loopAt (bodyOf Proofs.Try.f83) 0) (stOf (1000 + loopBase) I114_0q d) (roundK 1000 I114_0q O114_0q T114_0q (c114_0q rec)) := by
  obtain ⟨⟨_, _, ⟨_, _⟩, ⟨_, _⟩, ⟨_, _⟩, _⟩, ⟨_, _, ⟨_, _⟩, _, _⟩⟩ := d
  kernel_rfl
theorem lk114_0q : LoopOK Proofs.Try.prog 1000 2 23 (loopAt (bodyOf Proofs.Try.f83) 0) L114_0q :=
  loop_b (A := A114q) (inS := I114_0q) (outs := O114_0q) B114q (loopsOK_none (by kernel_rfl)) T114_0q e114_0q (fun _ _ _ => rfl) (fun k n d => c114_0q (view_all__view_May_fn1_L0 k n) d) (fun _ _ => rfl) (fun k n d => st114_0q k (view_all__view_May_fn1_L0 k n) d)
def as114q : List AX := [.c (.p (.dat false y9q)), .fn 136 [(true, [.map]), (false, [.p (.dat false y9q)])]]
def rs114q : RS := .c (.own y9q)
def os114q : List (List RC) := [[.map]]
def pk114q : (List K2q) × (List (Int × Bool)) → RL (rs114q.cells ++ os114q.flatten) := fun x => (x.1, x.2, ())
def up114q : RL (rs114q.cells ++ os114q.flatten) → (List K2q) × (List (Int × Bool)) := fun d => (d.1, d.2.1)
def s114q (k : Nat) (d : XD as114q) := view_all__view_May_fn1 k d.1 d.2.1 d.2.2.1
def R114q : Nat × Entry := (83, fun k nm args h => entryX as114q rs114q os114q (s114q k) pk114q nm args h)
theorem ev114q (k : Nat) (d : XD as114q) : evF E114q A114q k 1000 2 Proofs.Try.f83 (absArgsX as114q d).1 (absArgsX as114q d).2 (outXM as114q rs114q os114q up114q) = s114q k d := by
  obtain ⟨_, _, _, _⟩ := d
  kernel_rfl
theorem F114q : FnOK Proofs.Try.prog R114q := fn_x (E := E114q) (A := A114q) (na := 2) (fn := Proofs.Try.f83) (S := s114q) (unpack := up114q) B114q (by kernel_rfl) (loopsOK_of (n := 1) (by kernel_rfl) fun i hi => match i, hi with | 0, _ => ⟨L114_0q, by kernel_rfl, lk114_0q⟩ | i + 1, hi => absurd hi (by omega)) (by kernel_rfl) (by kernel_rfl) (fun _ => rfl) (by kernel_rfl) ev114q

/-! ### giro/view.May -/
noncomputable def E115q : Env := ⟨Proofs.Try.prog, fun _ => false, sumsOf [R10q, R114q]⟩
def A115q : Notes := ⟨[], []⟩
theorem B115q : EnvB E115q := env_n mixed_orders ⟨F10q, F114q, trivial⟩
def as115q : List AS := [.c (.dat false y9q), .c (.int .i64)]
def rs115q : RS := .c (.own y9q)
def pk115q : List K2q → RL rs115q.cells := fun x => (x, ())
def up115q : RL rs115q.cells → List K2q := fun d => d.1
def s115q (k : Nat) (d : AD as115q) := view_May k d.1 d.2.1
def R115q : Nat × Entry := (133, fun k nm args h => entry as115q rs115q (s115q k) pk115q nm args h)
theorem ev115q (k : Nat) (d : AD as115q) : evF E115q A115q k 1000 0 Proofs.Try.f133 (absArgs as115q d).1 (absArgs as115q d).2 (outM rs115q up115q) = s115q k d := by
  obtain ⟨_, _, _⟩ := d
  kernel_rfl
theorem F115q : FnOK Proofs.Try.prog R115q := fn_b (E := E115q) (A := A115q) (na := 0) (fn := Proofs.Try.f133) (S := s115q) (unpack := up115q) B115q (by kernel_rfl) (loopsOK_none (by kernel_rfl)) (by kernel_rfl) (by kernel_rfl) (fun _ => rfl) ev115q

/-! ### giro/fits.Fits$1 -/
noncomputable def E116q : Env := ⟨Proofs.Try.prog, fun _ => false, sumsOf [R45q]⟩
def A116q : Notes := ⟨[], []⟩
theorem B116q : EnvB E116q := env_n mixed_orders ⟨F45q, trivial⟩
def as116q : List AS := [.agg [.int .i64, .int .i64, .int .i64, .int .i64, .int .i64, .int .i64, .int .i64], .ptr [.dat false y5q, .dat false (.sl (.int .i64)), .dat false (.int .i64), .dat false (.sl (.int .i64))]]
def rs116q : RS := .c (.bool)
def pk116q : Bool → RL rs116q.cells := fun x => (x, ())
def up116q : RL rs116q.cells → Bool := fun d => d.1
def s116q (k : Nat) (d : AD as116q) := fits_Fits_fn1 k d.1 d.2.1 d.2.2.1 d.2.2.2.1 d.2.2.2.2.1 d.2.2.2.2.2.1 d.2.2.2.2.2.2.1 d.2.2.2.2.2.2.2.1 d.2.2.2.2.2.2.2.2.1 d.2.2.2.2.2.2.2.2.2.1 d.2.2.2.2.2.2.2.2.2.2.1
def R116q : Nat × Entry := (138, fun k nm args h => entry as116q rs116q (s116q k) pk116q nm args h)
theorem ev116q (k : Nat) (d : AD as116q) : evF E116q A116q k 1000 0 Proofs.Try.f138 (absArgs as116q d).1 (absArgs as116q d).2 (outM rs116q up116q) = s116q k d := by
  obtain ⟨_, _, _, _, _, _, _, _, _, _, _, _⟩ := d
  kernel_rfl
theorem F116q : FnOK Proofs.Try.prog R116q := fn_b (E := E116q) (A := A116q) (na := 0) (fn := Proofs.Try.f138) (S := s116q) (unpack := up116q) B116q (by kernel_rfl) (loopsOK_none (by kernel_rfl)) (by kernel_rfl) (by kernel_rfl) (fun _ => rfl) ev116q

/-! ### slices.IndexFunc[[]giro/api.Pay,giro/api.Pay] -/
noncomputable def E117q : Env := ⟨Proofs.Try.prog, fun _ => false, sumsOf [R116q]⟩
def I117_0q : Spec := ⟨[(0, .c (.dat false y9q)), (1, .c (.lit (.fn 138 [1001000]))), (7, .c (.int .i64)), (8, .c (.int .i64))], [.robox [.dat false y5q, .dat false (.sl (.int .i64)), .dat false (.int .i64), .dat false (.sl (.int .i64))]], []⟩
def X0_117_0q : Spec := ⟨[], [], []⟩
def X1_117_0q : Spec := ⟨[(4, .c (.int .i64))], [], []⟩
def O117_0q : List (Ex × Spec) := [(.exit 0, X0_117_0q), (.ret, X1_117_0q)]
def c117_0q (f : slices_IndexFunc_Pay__fits_Fits_fn1_L0T) (d : I117_0q.den) : Option (Unit ⊕ Int) := f d.1.1.1 d.1.2.2.1.1 d.1.2.2.2.1.1 d.2.1.1 d.2.1.2.1 d.2.1.2.2.1 d.2.1.2.2.2.1
def T117_0q : OutD O117_0q → (Unit ⊕ Int)
 | .inl d => .inl ()
 | .inr d => .inr d.1.1.1
def e117_0q (base : Nat) (x : (Unit ⊕ Int)) (R : Type) (K : Ex → St → Option R) : Option R := match x with
 | .inl x => K (.exit 0) (stOf base X0_117_0q ((), ()))
 | .inr x => K .ret (stOf base X1_117_0q (((x, ()), ()), ()))
def L117_0q : LoopSum := ⟨I117_0q, O117_0q, (Unit ⊕ Int), fun k d => c117_0q (slices_IndexFunc_Pay__fits_Fits_fn1_L0 k k) d, e117_0q⟩
def A117q : Notes := ⟨[], [(2, L117_0q)]⟩
theorem B117q : EnvB E117q := env_n mixed_orders ⟨F116q, trivial⟩
theorem st117_0q (k : Nat) (rec : slices_IndexFunc_Pay__fits_Fits_fn1_L0T) (d : I117_0q.den) : c117_0q (slices_IndexFunc_Pay__fits_Fits_fn1_L0b k rec) d = evC E117q A117q k 1000 0 19 (loopAt (bodyOf Proofs.Try.f109) 0) (stOf (1000 + loopBase) I117_0q d) (roundK 1000 I117_0q O117_0q T117_0q (c117_0q rec)) := by
  obtain ⟨⟨⟨_, _⟩, _, ⟨_, _⟩, ⟨_, _⟩, _⟩, ⟨⟨_, _, _, _, _⟩, _⟩⟩ := d
  kernel_rfl
theorem lk117_0q : LoopOK Proofs.Try.prog 1000 0 19 (loopAt (bodyOf Proofs.Try.f109) 0) L117_0q :=
  loop_b (A := A117q) (inS := I117_0q) (outs := O117_0q) B117q (loopsOK_none (by kernel_rfl)) T117_0q e117_0q (by intro o R K; rcases o with o | o <;> rfl) (fun k n d => c117_0q (slices_IndexFunc_Pay__fits_Fits_fn1_L0 k n) d) (fun _ _ => rfl) (fun k n d => st117_0q k (slices_IndexFunc_Pay__fits_Fits_fn1_L0 k n) d)
def as117q : List AS := [.c (.dat false y9q), .fn 138 [[.dat false y5q, .dat false (.sl (.int .i64)), .dat false (.int .i64), .dat false (.sl (.int .i64))]]]
def rs117q : RS := .c (.int .i64)
def pk117q : Int → RL rs117q.cells := fun x => (x, ())
def up117q : RL rs117q.cells → Int := fun d => d.1
def s117q (k : Nat) (d : AD as117q) := slices_IndexFunc_Pay__fits_Fits_fn1 k d.1 d.2.1 d.2.2.1 d.2.2.2.1 d.2.2.2.2.1
def R117q : Nat × Entry := (109, fun k nm args h => entry as117q rs117q (s117q k) pk117q nm args h)
theorem ev117q (k : Nat) (d : AD as117q) : evF E117q A117q k 1000 0 Proofs.Try.f109 (absArgs as117q d).1 (absArgs as117q d).2 (outM rs117q up117q) = s117q k d := by
  obtain ⟨_, _, _, _, _, _⟩ := d
  kernel_rfl
theorem F117q : FnOK Proofs.Try.prog R117q := fn_b (E := E117q) (A := A117q) (na := 0) (fn := Proofs.Try.f109) (S := s117q) (unpack := up117q) B117q (by kernel_rfl) (loopsOK_of (n := 1) (by kernel_rfl) fun i hi => match i, hi with | 0, _ => ⟨L117_0q, by kernel_rfl, lk117_0q⟩ | i + 1, hi => absurd hi (by omega)) (by kernel_rfl) (by kernel_rfl) (fun _ => rfl) ev117q

/-! ### slices.ContainsFunc[[]giro/api.Pay,giro/api.Pay] -/
noncomputable def E118q : Env := ⟨Proofs.Try.prog, fun _ => false, sumsOf [R117q]⟩
def A118q : Notes := ⟨[], []⟩
theorem B118q : EnvB E118q := env_n mixed_orders ⟨F117q, trivial⟩
def as118q : List AS := [.c (.dat false y9q), .fn 138 [[.dat false y5q, .dat false (.sl (.int .i64)), .dat false (.int .i64), .dat false (.sl (.int .i64))]]]
def rs118q : RS := .c (.bool)
def pk118q : Bool → RL rs118q.cells := fun x => (x, ())
def up118q : RL rs118q.cells → Bool := fun d => d.1
def s118q (k : Nat) (d : AD as118q) := slices_ContainsFunc_Pay__fits_Fits_fn1 k d.1 d.2.1 d.2.2.1 d.2.2.2.1 d.2.2.2.2.1
def R118q : Nat × Entry := (88, fun k nm args h => entry as118q rs118q (s118q k) pk118q nm args h)
theorem ev118q (k : Nat) (d : AD as118q) : evF E118q A118q k 1000 0 Proofs.Try.f88 (absArgs as118q d).1 (absArgs as118q d).2 (outM rs118q up118q) = s118q k d := by
  obtain ⟨_, _, _, _, _, _⟩ := d
  kernel_rfl
theorem F118q : FnOK Proofs.Try.prog R118q := fn_b (E := E118q) (A := A118q) (na := 0) (fn := Proofs.Try.f88) (S := s118q) (unpack := up118q) B118q (by kernel_rfl) (loopsOK_none (by kernel_rfl)) (by kernel_rfl) (by kernel_rfl) (fun _ => rfl) ev118q

/-! ### giro/fits.Fits -/
noncomputable def E119q : Env := ⟨Proofs.Try.prog, fun _ => false, sumsOf [R118q, R32q]⟩
def A119q : Notes := ⟨[], []⟩
theorem B119q : EnvB E119q := env_n mixed_orders ⟨F118q, F32q, trivial⟩
def as119q : List AS := [.agg [.dat false y5q, .dat false (.sl (.int .i64)), .dat false (.int .i64), .dat false (.sl (.int .i64))], .c (.dat false y9q)]
def rs119q : RS := .c (.bool)
def pk119q : Bool → RL rs119q.cells := fun x => (x, ())
def up119q : RL rs119q.cells → Bool := fun d => d.1
def s119q (k : Nat) (d : AD as119q) := fits_Fits k d.1 d.2.1 d.2.2.1 d.2.2.2.1 d.2.2.2.2.1
def R119q : Nat × Entry := (134, fun k nm args h => entry as119q rs119q (s119q k) pk119q nm args h)
theorem ev119q (k : Nat) (d : AD as119q) : evF E119q A119q k 1000 0 Proofs.Try.f134 (absArgs as119q d).1 (absArgs as119q d).2 (outM rs119q up119q) = s119q k d := by
  obtain ⟨_, _, _, _, _, _⟩ := d
  kernel_rfl
theorem F119q : FnOK Proofs.Try.prog R119q := fn_b (E := E119q) (A := A119q) (na := 0) (fn := Proofs.Try.f134) (S := s119q) (unpack := up119q) B119q (by kernel_rfl) (loopsOK_none (by kernel_rfl)) (by kernel_rfl) (by kernel_rfl) (fun _ => rfl) ev119q

/-! ### giro/free.next -/
noncomputable def E120q : Env := ⟨Proofs.Try.prog, fun _ => false, sumsOf [R115q, R119q, R72q]⟩
def I120_0q : Spec := ⟨[(3, .c (.lit (.ptr 1001000 0))), (6, .c (.lit (.ptr 1001001 0))), (7, .c (.lit (.ptr 1001002 0))), (15, .c (.lit (.osl 1001003 none))), (16, .c (.int .i64)), (17, .c (.int .i64))], [.box true [.dat true y5q, .dat true (.sl (.int .i64)), .dat true (.int .i64), .dat true (.sl (.int .i64))], .box true [.int .i64, .int .i64, .int .i64, .int .i64, .int .i64, .int .i64, .int .i64], .box true [.lit .nsl, .lit .nsl, .lit .nsl, .lit .nsl], .arr true y9q], []⟩
def X0_120_0q : Spec := ⟨[(3, .c (.lit (.ptr 1001000 0))), (6, .c (.lit (.ptr 1001001 0))), (7, .c (.lit (.ptr 1001002 0)))], [.box true [.dat true y5q, .dat true (.sl (.int .i64)), .dat true (.int .i64), .dat true (.sl (.int .i64))], .box true [.int .i64, .int .i64, .int .i64, .int .i64, .int .i64, .int .i64, .int .i64], .box true [.lit .nsl, .lit .nsl, .lit .nsl, .lit .nsl]], []⟩
def X1_120_0q : Spec := ⟨[(6, .c (.lit (.ptr 1001000 0))), (7, .c (.lit (.ptr 1001001 0))), (8, .c (.bool))], [.box true [.int .i64, .int .i64, .int .i64, .int .i64, .int .i64, .int .i64, .int .i64], .box true [.dat true y5q, .dat true (.sl (.int .i64)), .dat true (.int .i64), .dat true (.sl (.int .i64))]], []⟩
def O120_0q : List (Ex × Spec) := [(.exit 0, X0_120_0q), (.ret, X1_120_0q)]
def c120_0q (f : free_next_L0T) (d : I120_0q.den) : Option free_next_L0X := f d.1.2.2.2.2.1.1 d.1.2.2.2.2.2.1.1 d.2.1.1 d.2.1.2.1 d.2.1.2.2.1 d.2.1.2.2.2.1 d.2.2.1.1 d.2.2.1.2.1 d.2.2.1.2.2.1 d.2.2.1.2.2.2.1 d.2.2.1.2.2.2.2.1 d.2.2.1.2.2.2.2.2.1 d.2.2.1.2.2.2.2.2.2.1 d.2.2.2.2.1
def T120_0q : OutD O120_0q → free_next_L0X
 | .inl d => .inl (d.2.1.1, d.2.1.2.1, d.2.1.2.2.1, d.2.1.2.2.2.1, d.2.2.1.1, d.2.2.1.2.1, d.2.2.1.2.2.1, d.2.2.1.2.2.2.1, d.2.2.1.2.2.2.2.1, d.2.2.1.2.2.2.2.2.1, d.2.2.1.2.2.2.2.2.2.1)
 | .inr d => .inr (d.1.2.2.1.1, d.2.1.1, d.2.1.2.1, d.2.1.2.2.1, d.2.1.2.2.2.1, d.2.1.2.2.2.2.1, d.2.1.2.2.2.2.2.1, d.2.1.2.2.2.2.2.2.1, d.2.2.1.1, d.2.2.1.2.1, d.2.2.1.2.2.1, d.2.2.1.2.2.2.1)
def e120_0q (base : Nat) (x : free_next_L0X) (R : Type) (K : Ex → St → Option R) : Option R := match x with
 | .inl x => K (.exit 0) (stOf base X0_120_0q (((), (), (), ()), ((x.1, x.2.1, x.2.2.1, x.2.2.2.1, ()), (x.2.2.2.2.1, x.2.2.2.2.2.1, x.2.2.2.2.2.2.1, x.2.2.2.2.2.2.2.1, x.2.2.2.2.2.2.2.2.1, x.2.2.2.2.2.2.2.2.2.1, x.2.2.2.2.2.2.2.2.2.2, ()), (), ())))
 | .inr x => K .ret (stOf base X1_120_0q (((), (), (x.1, ()), ()), ((x.2.1, x.2.2.1, x.2.2.2.1, x.2.2.2.2.1, x.2.2.2.2.2.1, x.2.2.2.2.2.2.1, x.2.2.2.2.2.2.2.1, ()), (x.2.2.2.2.2.2.2.2.1, x.2.2.2.2.2.2.2.2.2.1, x.2.2.2.2.2.2.2.2.2.2.1, x.2.2.2.2.2.2.2.2.2.2.2, ()), ())))
def L120_0q : LoopSum := ⟨I120_0q, O120_0q, free_next_L0X, fun k d => c120_0q (free_next_L0 k k) d, e120_0q⟩
def A120q : Notes := ⟨[], [(2, L120_0q)]⟩
theorem B120q : EnvB E120q := env_n mixed_orders ⟨F115q, F119q, F72q, trivial⟩
theorem st120_0q (k : Nat) (rec : free_next_L0T) (d : I120_0q.den) : c120_0q (free_next_L0b k rec) d = evC E120q A120q k 1000 0 40 (loopAt (bodyOf Proofs.Try.f126) 0) (stOf (1000 + loopBase) I120_0q d) (roundK 1000 I120_0q O120_0q T120_0q (c120_0q rec)) := by
  obtain ⟨⟨_, _, _, _, ⟨_, _⟩, ⟨_, _⟩, _⟩, ⟨⟨_, _, _, _, _⟩, ⟨_, _, _, _, _, _, _, _⟩, _, _, _⟩⟩ := d
  kernel_rfl
theorem lk120_0q : LoopOK Proofs.Try.prog 1000 0 40 (loopAt (bodyOf Proofs.Try.f126) 0) L120_0q :=
  loop_b (A := A120q) (inS := I120_0q) (outs := O120_0q) B120q (loopsOK_none (by kernel_rfl)) T120_0q e120_0q (by intro o R K; rcases o with o | o <;> rfl) (fun k n d => c120_0q (free_next_L0 k n) d) (fun _ _ => rfl) (fun k n d => st120_0q k (free_next_L0 k n) d)
def as120q : List AS := [.agg [.dat true y5q, .dat true (.sl (.int .i64)), .dat true (.int .i64), .dat true (.sl (.int .i64))], .c (.dat true y9q), .c (.int .i64)]
def rs120q : RS := .tup [(true, [.int .i64, .int .i64, .int .i64, .int .i64, .int .i64, .int .i64, .int .i64]), (true, [.fro y5q, .fro (.sl (.int .i64)), .fro (.int .i64), .fro (.sl (.int .i64))]), (false, [.bool])]
def pk120q : Int × Int × Int × Int × Int × Int × Int × (List K3q) × (List (List Int)) × (List Int) × (List (List Int)) × Bool → RL rs120q.cells := fun x => (x.1, x.2.1, x.2.2.1, x.2.2.2.1, x.2.2.2.2.1, x.2.2.2.2.2.1, x.2.2.2.2.2.2.1, x.2.2.2.2.2.2.2.1, x.2.2.2.2.2.2.2.2.1, x.2.2.2.2.2.2.2.2.2.1, x.2.2.2.2.2.2.2.2.2.2.1, x.2.2.2.2.2.2.2.2.2.2.2, ())
def up120q : RL rs120q.cells → Int × Int × Int × Int × Int × Int × Int × (List K3q) × (List (List Int)) × (List Int) × (List (List Int)) × Bool := fun d => (d.1, d.2.1, d.2.2.1, d.2.2.2.1, d.2.2.2.2.1, d.2.2.2.2.2.1, d.2.2.2.2.2.2.1, d.2.2.2.2.2.2.2.1, d.2.2.2.2.2.2.2.2.1, d.2.2.2.2.2.2.2.2.2.1, d.2.2.2.2.2.2.2.2.2.2.1, d.2.2.2.2.2.2.2.2.2.2.2.1)
def s120q (k : Nat) (d : AD as120q) := free_next k d.1 d.2.1 d.2.2.1 d.2.2.2.1 d.2.2.2.2.1 d.2.2.2.2.2.1
def R120q : Nat × Entry := (126, fun k nm args h => entry as120q rs120q (s120q k) pk120q nm args h)
theorem ev120q (k : Nat) (d : AD as120q) : evF E120q A120q k 1000 0 Proofs.Try.f126 (absArgs as120q d).1 (absArgs as120q d).2 (outM rs120q up120q) = s120q k d := by
  obtain ⟨_, _, _, _, _, _, _⟩ := d
  kernel_rfl
theorem F120q : FnOK Proofs.Try.prog R120q := fn_b (E := E120q) (A := A120q) (na := 0) (fn := Proofs.Try.f126) (S := s120q) (unpack := up120q) B120q (by kernel_rfl) (loopsOK_of (n := 1) (by kernel_rfl) fun i hi => match i, hi with | 0, _ => ⟨L120_0q, by kernel_rfl, lk120_0q⟩ | i + 1, hi => absurd hi (by omega)) (by kernel_rfl) (by kernel_rfl) (fun _ => rfl) ev120q

/-! ### giro/free.Run -/
noncomputable def E121q : Env := ⟨Proofs.Try.prog, fun _ => false, sumsOf [R120q, R78q]⟩
def I121_0q : Spec := ⟨[(2, .c (.int .i64)), (6, .c (.lit (.ptr 1001000 0))), (7, .c (.dat true y9q)), (8, .c (.lit (.osl 1001001 none)))], [.box true [.dat true y5q, .dat true (.sl (.int .i64)), .dat true (.int .i64), .dat true (.sl (.int .i64))], .arr true y9q], [(8, none, y9q, false)]⟩
def X0_121_0q : Spec := ⟨[(6, .c (.lit (.ptr 1001000 0))), (7, .c (.dat true y9q)), (8, .c (.lit (.osl 1001001 none)))], [.box true [.dat true y5q, .dat true (.sl (.int .i64)), .dat true (.int .i64), .dat true (.sl (.int .i64))], .arr true y9q], []⟩
def O121_0q : List (Ex × Spec) := [(.ret, X0_121_0q)]
def c121_0q (f : free_Run_L0T) (d : I121_0q.den) : Option free_Run_L0X := f d.1.1.1 d.1.2.2.1.1 d.2.1.1 d.2.1.2.1 d.2.1.2.2.1 d.2.1.2.2.2.1 d.2.2.1
def T121_0q : OutD O121_0q → free_Run_L0X := fun d => (d.1.2.1.1, d.2.1.1, d.2.1.2.1, d.2.1.2.2.1, d.2.1.2.2.2.1, d.2.2.1)
def e121_0q (base : Nat) (x : free_Run_L0X) (R : Type) (K : Ex → St → Option R) : Option R := K .ret (stOf base X0_121_0q (((), (x.1, ()), (), ()), ((x.2.1, x.2.2.1, x.2.2.2.1, x.2.2.2.2.1, ()), x.2.2.2.2.2, ())))
def L121_0q : LoopSum := ⟨I121_0q, O121_0q, free_Run_L0X, fun k d => c121_0q (free_Run_L0 k k) d, e121_0q⟩
def A121q : Notes := ⟨[], [(2, L121_0q)]⟩
theorem B121q : EnvB E121q := env_n mixed_orders ⟨F120q, F78q, trivial⟩
theorem st121_0q (k : Nat) (rec : free_Run_L0T) (d : I121_0q.den) : c121_0q (free_Run_L0b k rec) d = evC E121q A121q k 1000 0 40 (loopAt (bodyOf Proofs.Try.f105) 0) (stOf (1000 + loopBase) I121_0q d) (roundK 1000 I121_0q O121_0q T121_0q (c121_0q rec)) := by
  obtain ⟨⟨⟨_, _⟩, _, ⟨_, _⟩, _, _⟩, ⟨⟨_, _, _, _, _⟩, _, _⟩⟩ := d
  kernel_rfl
theorem lk121_0q : LoopOK Proofs.Try.prog 1000 0 40 (loopAt (bodyOf Proofs.Try.f105) 0) L121_0q :=
  loop_b (A := A121q) (inS := I121_0q) (outs := O121_0q) B121q (loopsOK_none (by kernel_rfl)) T121_0q e121_0q (fun _ _ _ => rfl) (fun k n d => c121_0q (free_Run_L0 k n) d) (fun _ _ => rfl) (fun k n d => st121_0q k (free_Run_L0 k n) d)
def as121q : List AS := [.agg [.dat true y5q, .dat true (.sl (.int .i64)), .dat true (.int .i64), .dat true (.sl (.int .i64))], .c (.dat true y9q), .c (.int .i64)]
def rs121q : RS := .tup [(true, [.fro y5q, .fro (.sl (.int .i64)), .fro (.int .i64), .fro (.sl (.int .i64))]), (false, [.fro y9q]), (false, [.own y9q])]
def pk121q : (List K3q) × (List (List Int)) × (List Int) × (List (List Int)) × (List K2q) × (List K2q) → RL rs121q.cells := fun x => (x.1, x.2.1, x.2.2.1, x.2.2.2.1, x.2.2.2.2.1, x.2.2.2.2.2, ())
def up121q : RL rs121q.cells → (List K3q) × (List (List Int)) × (List Int) × (List (List Int)) × (List K2q) × (List K2q) := fun d => (d.1, d.2.1, d.2.2.1, d.2.2.2.1, d.2.2.2.2.1, d.2.2.2.2.2.1)
def s121q (k : Nat) (d : AD as121q) := free_Run k d.1 d.2.1 d.2.2.1 d.2.2.2.1 d.2.2.2.2.1 d.2.2.2.2.2.1
def R121q : Nat × Entry := (105, fun k nm args h => entry as121q rs121q (s121q k) pk121q nm args h)
theorem ev121q (k : Nat) (d : AD as121q) : evF E121q A121q k 1000 0 Proofs.Try.f105 (absArgs as121q d).1 (absArgs as121q d).2 (outM rs121q up121q) = s121q k d := by
  obtain ⟨_, _, _, _, _, _, _⟩ := d
  kernel_rfl
theorem F121q : FnOK Proofs.Try.prog R121q := fn_b (E := E121q) (A := A121q) (na := 0) (fn := Proofs.Try.f105) (S := s121q) (unpack := up121q) B121q (by kernel_rfl) (loopsOK_of (n := 1) (by kernel_rfl) fun i hi => match i, hi with | 0, _ => ⟨L121_0q, by kernel_rfl, lk121_0q⟩ | i + 1, hi => absurd hi (by omega)) (by kernel_rfl) (by kernel_rfl) (fun _ => rfl) ev121q

/-! ### giro/pair.next -/
noncomputable def E122q : Env := ⟨Proofs.Try.prog, fun _ => false, sumsOf [R115q, R119q, R72q]⟩
def I122_0q : Spec := ⟨[(3, .c (.lit (.ptr 1001000 0))), (6, .c (.lit (.ptr 1001001 0))), (8, .c (.lit (.osl 1001002 none))), (10, .c (.lit (.ptr 1001003 0))), (18, .c (.lit (.osl 1001002 none))), (19, .c (.int .i64)), (20, .c (.int .i64)), (24, .c (.lit (.osl 1001002 none))), (25, .c (.int .i64)), (26, .c (.int .i64))], [.box true [.dat true y5q, .dat true (.sl (.int .i64)), .dat true (.int .i64), .dat true (.sl (.int .i64))], .box true [.int .i64, .int .i64, .int .i64, .int .i64, .int .i64, .int .i64, .int .i64, .int .i64, .int .i64, .int .i64, .int .i64, .int .i64, .int .i64, .int .i64, .lit .nsl, .lit .nsl, .lit .nsl, .lit .nsl], .arr true y9q, .box true [.int .i64, .int .i64, .int .i64, .int .i64, .int .i64, .int .i64, .int .i64]], []⟩
def X0_122_0q : Spec := ⟨[(3, .c (.lit (.ptr 1001000 0))), (6, .c (.lit (.ptr 1001001 0))), (8, .c (.lit (.osl 1001002 none))), (18, .c (.lit (.osl 1001002 none))), (19, .c (.int .i64)), (20, .c (.int .i64))], [.box true [.dat true y5q, .dat true (.sl (.int .i64)), .dat true (.int .i64), .dat true (.sl (.int .i64))], .box true [.int .i64, .int .i64, .int .i64, .int .i64, .int .i64, .int .i64, .int .i64, .int .i64, .int .i64, .int .i64, .int .i64, .int .i64, .int .i64, .int .i64, .lit .nsl, .lit .nsl, .lit .nsl, .lit .nsl], .arr true y9q], []⟩
def X1_122_0q : Spec := ⟨[(6, .c (.lit (.ptr 1001000 0))), (7, .c (.bool))], [.box true [.int .i64, .int .i64, .int .i64, .int .i64, .int .i64, .int .i64, .int .i64, .int .i64, .int .i64, .int .i64, .int .i64, .int .i64, .int .i64, .int .i64, .dat true y5q, .dat true (.sl (.int .i64)), .dat true (.int .i64), .dat true (.sl (.int .i64))]], []⟩
def O122_0q : List (Ex × Spec) := [(.exit 2, X0_122_0q), (.ret, X1_122_0q)]
def c122_0q (f : pair_next_L1T) (d : I122_0q.den) : Option pair_next_L1X := f d.1.2.2.2.2.2.1.1 d.1.2.2.2.2.2.2.1.1 d.1.2.2.2.2.2.2.2.2.1.1 d.1.2.2.2.2.2.2.2.2.2.1.1 d.2.1.1 d.2.1.2.1 d.2.1.2.2.1 d.2.1.2.2.2.1 d.2.2.1.1 d.2.2.1.2.1 d.2.2.1.2.2.1 d.2.2.1.2.2.2.1 d.2.2.1.2.2.2.2.1 d.2.2.1.2.2.2.2.2.1 d.2.2.1.2.2.2.2.2.2.1 d.2.2.1.2.2.2.2.2.2.2.1 d.2.2.1.2.2.2.2.2.2.2.2.1 d.2.2.1.2.2.2.2.2.2.2.2.2.1 d.2.2.1.2.2.2.2.2.2.2.2.2.2.1 d.2.2.1.2.2.2.2.2.2.2.2.2.2.2.1 d.2.2.1.2.2.2.2.2.2.2.2.2.2.2.2.1 d.2.2.1.2.2.2.2.2.2.2.2.2.2.2.2.2.1 d.2.2.2.1 d.2.2.2.2.1.1 d.2.2.2.2.1.2.1 d.2.2.2.2.1.2.2.1 d.2.2.2.2.1.2.2.2.1 d.2.2.2.2.1.2.2.2.2.1 d.2.2.2.2.1.2.2.2.2.2.1 d.2.2.2.2.1.2.2.2.2.2.2.1
def T122_0q : OutD O122_0q → pair_next_L1X
 | .inl d => .inl (d.1.2.2.2.2.1.1, d.1.2.2.2.2.2.1.1, d.2.1.1, d.2.1.2.1, d.2.1.2.2.1, d.2.1.2.2.2.1, d.2.2.1.1, d.2.2.1.2.1, d.2.2.1.2.2.1, d.2.2.1.2.2.2.1, d.2.2.1.2.2.2.2.1, d.2.2.1.2.2.2.2.2.1, d.2.2.1.2.2.2.2.2.2.1, d.2.2.1.2.2.2.2.2.2.2.1, d.2.2.1.2.2.2.2.2.2.2.2.1, d.2.2.1.2.2.2.2.2.2.2.2.2.1, d.2.2.1.2.2.2.2.2.2.2.2.2.2.1, d.2.2.1.2.2.2.2.2.2.2.2.2.2.2.1, d.2.2.1.2.2.2.2.2.2.2.2.2.2.2.2.1, d.2.2.1.2.2.2.2.2.2.2.2.2.2.2.2.2.1, d.2.2.2.1)
 | .inr d => .inr (d.1.2.1.1, d.2.1.1, d.2.1.2.1, d.2.1.2.2.1, d.2.1.2.2.2.1, d.2.1.2.2.2.2.1, d.2.1.2.2.2.2.2.1, d.2.1.2.2.2.2.2.2.1, d.2.1.2.2.2.2.2.2.2.1, d.2.1.2.2.2.2.2.2.2.2.1, d.2.1.2.2.2.2.2.2.2.2.2.1, d.2.1.2.2.2.2.2.2.2.2.2.2.1, d.2.1.2.2.2.2.2.2.2.2.2.2.2.1, d.2.1.2.2.2.2.2.2.2.2.2.2.2.2.1, d.2.1.2.2.2.2.2.2.2.2.2.2.2.2.2.1, d.2.1.2.2.2.2.2.2.2.2.2.2.2.2.2.2.1, d.2.1.2.2.2.2.2.2.2.2.2.2.2.2.2.2.2.1, d.2.1.2.2.2.2.2.2.2.2.2.2.2.2.2.2.2.2.1, d.2.1.2.2.2.2.2.2.2.2.2.2.2.2.2.2.2.2.2.1)
def e122_0q (base : Nat) (x : pair_next_L1X) (R : Type) (K : Ex → St → Option R) : Option R := match x with
 | .inl x => K (.exit 2) (stOf base X0_122_0q (((), (), (), (), (x.1, ()), (x.2.1, ()), ()), ((x.2.2.1, x.2.2.2.1, x.2.2.2.2.1, x.2.2.2.2.2.1, ()), (x.2.2.2.2.2.2.1, x.2.2.2.2.2.2.2.1, x.2.2.2.2.2.2.2.2.1, x.2.2.2.2.2.2.2.2.2.1, x.2.2.2.2.2.2.2.2.2.2.1, x.2.2.2.2.2.2.2.2.2.2.2.1, x.2.2.2.2.2.2.2.2.2.2.2.2.1, x.2.2.2.2.2.2.2.2.2.2.2.2.2.1, x.2.2.2.2.2.2.2.2.2.2.2.2.2.2.1, x.2.2.2.2.2.2.2.2.2.2.2.2.2.2.2.1, x.2.2.2.2.2.2.2.2.2.2.2.2.2.2.2.2.1, x.2.2.2.2.2.2.2.2.2.2.2.2.2.2.2.2.2.1, x.2.2.2.2.2.2.2.2.2.2.2.2.2.2.2.2.2.2.1, x.2.2.2.2.2.2.2.2.2.2.2.2.2.2.2.2.2.2.2.1, ()), x.2.2.2.2.2.2.2.2.2.2.2.2.2.2.2.2.2.2.2.2, ())))
 | .inr x => K .ret (stOf base X1_122_0q (((), (x.1, ()), ()), ((x.2.1, x.2.2.1, x.2.2.2.1, x.2.2.2.2.1, x.2.2.2.2.2.1, x.2.2.2.2.2.2.1, x.2.2.2.2.2.2.2.1, x.2.2.2.2.2.2.2.2.1, x.2.2.2.2.2.2.2.2.2.1, x.2.2.2.2.2.2.2.2.2.2.1, x.2.2.2.2.2.2.2.2.2.2.2.1, x.2.2.2.2.2.2.2.2.2.2.2.2.1, x.2.2.2.2.2.2.2.2.2.2.2.2.2.1, x.2.2.2.2.2.2.2.2.2.2.2.2.2.2.1, x.2.2.2.2.2.2.2.2.2.2.2.2.2.2.2.1, x.2.2.2.2.2.2.2.2.2.2.2.2.2.2.2.2.1, x.2.2.2.2.2.2.2.2.2.2.2.2.2.2.2.2.2.1, x.2.2.2.2.2.2.2.2.2.2.2.2.2.2.2.2.2.2, ()), ())))
def L122_0q : LoopSum := ⟨I122_0q, O122_0q, pair_next_L1X, fun k d => c122_0q (pair_next_L1 k k) d, e122_0q⟩
def I122_1q : Spec := ⟨[(3, .c (.lit (.ptr 1001000 0))), (6, .c (.lit (.ptr 1001001 0))), (8, .c (.lit (.osl 1001002 none))), (18, .c (.lit (.osl 1001002 none))), (19, .c (.int .i64)), (20, .c (.int .i64))], [.box true [.dat true y5q, .dat true (.sl (.int .i64)), .dat true (.int .i64), .dat true (.sl (.int .i64))], .box true [.int .i64, .int .i64, .int .i64, .int .i64, .int .i64, .int .i64, .int .i64, .int .i64, .int .i64, .int .i64, .int .i64, .int .i64, .int .i64, .int .i64, .lit .nsl, .lit .nsl, .lit .nsl, .lit .nsl], .arr true y9q], []⟩
def X0_122_1q : Spec := ⟨[(6, .c (.lit (.ptr 1001000 0)))], [.box true [.int .i64, .int .i64, .int .i64, .int .i64, .int .i64, .int .i64, .int .i64, .int .i64, .int .i64, .int .i64, .int .i64, .int .i64, .int .i64, .int .i64, .lit .nsl, .lit .nsl, .lit .nsl, .lit .nsl]], []⟩
def X1_122_1q : Spec := ⟨[(6, .c (.lit (.ptr 1001000 0))), (7, .c (.bool))], [.box true [.int .i64, .int .i64, .int .i64, .int .i64, .int .i64, .int .i64, .int .i64, .int .i64, .int .i64, .int .i64, .int .i64, .int .i64, .int .i64, .int .i64, .dat true y5q, .dat true (.sl (.int .i64)), .dat true (.int .i64), .dat true (.sl (.int .i64))]], []⟩
def O122_1q : List (Ex × Spec) := [(.exit 0, X0_122_1q), (.ret, X1_122_1q)]
def c122_1q (f : pair_next_L0T) (d : I122_1q.den) : Option pair_next_L0X := f d.1.2.2.2.2.1.1 d.1.2.2.2.2.2.1.1 d.2.1.1 d.2.1.2.1 d.2.1.2.2.1 d.2.1.2.2.2.1 d.2.2.1.1 d.2.2.1.2.1 d.2.2.1.2.2.1 d.2.2.1.2.2.2.1 d.2.2.1.2.2.2.2.1 d.2.2.1.2.2.2.2.2.1 d.2.2.1.2.2.2.2.2.2.1 d.2.2.1.2.2.2.2.2.2.2.1 d.2.2.1.2.2.2.2.2.2.2.2.1 d.2.2.1.2.2.2.2.2.2.2.2.2.1 d.2.2.1.2.2.2.2.2.2.2.2.2.2.1 d.2.2.1.2.2.2.2.2.2.2.2.2.2.2.1 d.2.2.1.2.2.2.2.2.2.2.2.2.2.2.2.1 d.2.2.1.2.2.2.2.2.2.2.2.2.2.2.2.2.1 d.2.2.2.1
def T122_1q : OutD O122_1q → pair_next_L0X
 | .inl d => .inl (d.2.1.1, d.2.1.2.1, d.2.1.2.2.1, d.2.1.2.2.2.1, d.2.1.2.2.2.2.1, d.2.1.2.2.2.2.2.1, d.2.1.2.2.2.2.2.2.1, d.2.1.2.2.2.2.2.2.2.1, d.2.1.2.2.2.2.2.2.2.2.1, d.2.1.2.2.2.2.2.2.2.2.2.1, d.2.1.2.2.2.2.2.2.2.2.2.2.1, d.2.1.2.2.2.2.2.2.2.2.2.2.2.1, d.2.1.2.2.2.2.2.2.2.2.2.2.2.2.1, d.2.1.2.2.2.2.2.2.2.2.2.2.2.2.2.1)
 | .inr d => .inr (d.1.2.1.1, d.2.1.1, d.2.1.2.1, d.2.1.2.2.1, d.2.1.2.2.2.1, d.2.1.2.2.2.2.1, d.2.1.2.2.2.2.2.1, d.2.1.2.2.2.2.2.2.1, d.2.1.2.2.2.2.2.2.2.1, d.2.1.2.2.2.2.2.2.2.2.1, d.2.1.2.2.2.2.2.2.2.2.2.1, d.2.1.2.2.2.2.2.2.2.2.2.2.1, d.2.1.2.2.2.2.2.2.2.2.2.2.2.1, d.2.1.2.2.2.2.2.2.2.2.2.2.2.2.1, d.2.1.2.2.2.2.2.2.2.2.2.2.2.2.2.1, d.2.1.2.2.2.2.2.2.2.2.2.2.2.2.2.2.1, d.2.1.2.2.2.2.2.2.2.2.2.2.2.2.2.2.2.1, d.2.1.2.2.2.2.2.2.2.2.2.2.2.2.2.2.2.2.1, d.2.1.2.2.2.2.2.2.2.2.2.2.2.2.2.2.2.2.2.1)
def e122_1q (base : Nat) (x : pair_next_L0X) (R : Type) (K : Ex → St → Option R) : Option R := match x with
 | .inl x => K (.exit 0) (stOf base X0_122_1q (((), ()), ((x.1, x.2.1, x.2.2.1, x.2.2.2.1, x.2.2.2.2.1, x.2.2.2.2.2.1, x.2.2.2.2.2.2.1, x.2.2.2.2.2.2.2.1, x.2.2.2.2.2.2.2.2.1, x.2.2.2.2.2.2.2.2.2.1, x.2.2.2.2.2.2.2.2.2.2.1, x.2.2.2.2.2.2.2.2.2.2.2.1, x.2.2.2.2.2.2.2.2.2.2.2.2.1, x.2.2.2.2.2.2.2.2.2.2.2.2.2, ()), ())))
 | .inr x => K .ret (stOf base X1_122_1q (((), (x.1, ()), ()), ((x.2.1, x.2.2.1, x.2.2.2.1, x.2.2.2.2.1, x.2.2.2.2.2.1, x.2.2.2.2.2.2.1, x.2.2.2.2.2.2.2.1, x.2.2.2.2.2.2.2.2.1, x.2.2.2.2.2.2.2.2.2.1, x.2.2.2.2.2.2.2.2.2.2.1, x.2.2.2.2.2.2.2.2.2.2.2.1, x.2.2.2.2.2.2.2.2.2.2.2.2.1, x.2.2.2.2.2.2.2.2.2.2.2.2.2.1, x.2.2.2.2.2.2.2.2.2.2.2.2.2.2.1, x.2.2.2.2.2.2.2.2.2.2.2.2.2.2.2.1, x.2.2.2.2.2.2.2.2.2.2.2.2.2.2.2.2.1, x.2.2.2.2.2.2.2.2.2.2.2.2.2.2.2.2.2.1, x.2.2.2.2.2.2.2.2.2.2.2.2.2.2.2.2.2.2, ()), ())))
def L122_1q : LoopSum := ⟨I122_1q, O122_1q, pair_next_L0X, fun k d => c122_1q (pair_next_L0 k k) d, e122_1q⟩
def A122q : Notes := ⟨[], [(6, L122_0q), (3, L122_1q)]⟩
theorem B122q : EnvB E122q := env_n mixed_orders ⟨F115q, F119q, F72q, trivial⟩
theorem st122_0q (k : Nat) (rec : pair_next_L1T) (d : I122_0q.den) : c122_0q (pair_next_L1b k rec) d = evC E122q A122q k 1000 0 74 (loopAt (loopAt (bodyOf Proofs.Try.f127) 0) 0) (stOf (1000 + loopBase) I122_0q d) (roundK 1000 I122_0q O122_0q T122_0q (c122_0q rec)) := by
  obtain ⟨⟨_, _, _, _, _, ⟨_, _⟩, ⟨_, _⟩, _, ⟨_, _⟩, ⟨_, _⟩, _⟩, ⟨⟨_, _, _, _, _⟩, ⟨_, _, _, _, _, _, _, _, _, _, _, _, _, _, _⟩, _, ⟨_, _, _, _, _, _, _, _⟩, _⟩⟩ := d
  kernel_rfl
theorem lk122_0q : LoopOK Proofs.Try.prog 1000 0 74 (loopAt (loopAt (bodyOf Proofs.Try.f127) 0) 0) L122_0q :=
  loop_b (A := A122q) (inS := I122_0q) (outs := O122_0q) B122q (loopsOK_none (by kernel_rfl)) T122_0q e122_0q (by intro o R K; rcases o with o | o <;> rfl) (fun k n d => c122_0q (pair_next_L1 k n) d) (fun _ _ => rfl) (fun k n d => st122_0q k (pair_next_L1 k n) d)
theorem st122_1q (k : Nat) (rec : pair_next_L0T) (d : I122_1q.den) : c122_1q (pair_next_L0b k rec) d = evC E122q A122q k 1000 0 74 (loopAt (bodyOf Proofs.Try.f127) 0) (stOf (1000 + loopBase) I122_1q d) (roundK 1000 I122_1q O122_1q T122_1q (c122_1q rec)) := by
  obtain ⟨⟨_, _, _, _, ⟨_, _⟩, ⟨_, _⟩, _⟩, ⟨⟨_, _, _, _, _⟩, ⟨_, _, _, _, _, _, _, _, _, _, _, _, _, _, _⟩, _, _⟩⟩ := d
  kernel_rfl
theorem lk122_1q : LoopOK Proofs.Try.prog 1000 0 74 (loopAt (bodyOf Proofs.Try.f127) 0) L122_1q :=
  loop_b (A := A122q) (inS := I122_1q) (outs := O122_1q) B122q (loopsOK_of (n := 1) (by kernel_rfl) fun i hi => match i, hi with | 0, _ => ⟨L122_0q, by kernel_rfl, lk122_0q⟩ | i + 1, hi => absurd hi (by omega)) T122_1q e122_1q (by intro o R K; rcases o with o | o <;> rfl) (fun k n d => c122_1q (pair_next_L0 k n) d) (fun _ _ => rfl) (fun k n d => st122_1q k (pair_next_L0 k n) d)
def as122q : List AS := [.agg [.dat true y5q, .dat true (.sl (.int .i64)), .dat true (.int .i64), .dat true (.sl (.int .i64))], .c (.dat true y9q), .c (.int .i64)]
def rs122q : RS := .tup [(true, [.int .i64, .int .i64, .int .i64, .int .i64, .int .i64, .int .i64, .int .i64, .int .i64, .int .i64, .int .i64, .int .i64, .int .i64, .int .i64, .int .i64, .fro y5q, .fro (.sl (.int .i64)), .fro (.int .i64), .fro (.sl (.int .i64))]), (false, [.bool])]
def pk122q : Int × Int × Int × Int × Int × Int × Int × Int × Int × Int × Int × Int × Int × Int × (List K3q) × (List (List Int)) × (List Int) × (List (List Int)) × Bool → RL rs122q.cells := fun x => (x.1, x.2.1, x.2.2.1, x.2.2.2.1, x.2.2.2.2.1, x.2.2.2.2.2.1, x.2.2.2.2.2.2.1, x.2.2.2.2.2.2.2.1, x.2.2.2.2.2.2.2.2.1, x.2.2.2.2.2.2.2.2.2.1, x.2.2.2.2.2.2.2.2.2.2.1, x.2.2.2.2.2.2.2.2.2.2.2.1, x.2.2.2.2.2.2.2.2.2.2.2.2.1, x.2.2.2.2.2.2.2.2.2.2.2.2.2.1, x.2.2.2.2.2.2.2.2.2.2.2.2.2.2.1, x.2.2.2.2.2.2.2.2.2.2.2.2.2.2.2.1, x.2.2.2.2.2.2.2.2.2.2.2.2.2.2.2.2.1, x.2.2.2.2.2.2.2.2.2.2.2.2.2.2.2.2.2.1, x.2.2.2.2.2.2.2.2.2.2.2.2.2.2.2.2.2.2, ())
def up122q : RL rs122q.cells → Int × Int × Int × Int × Int × Int × Int × Int × Int × Int × Int × Int × Int × Int × (List K3q) × (List (List Int)) × (List Int) × (List (List Int)) × Bool := fun d => (d.1, d.2.1, d.2.2.1, d.2.2.2.1, d.2.2.2.2.1, d.2.2.2.2.2.1, d.2.2.2.2.2.2.1, d.2.2.2.2.2.2.2.1, d.2.2.2.2.2.2.2.2.1, d.2.2.2.2.2.2.2.2.2.1, d.2.2.2.2.2.2.2.2.2.2.1, d.2.2.2.2.2.2.2.2.2.2.2.1, d.2.2.2.2.2.2.2.2.2.2.2.2.1, d.2.2.2.2.2.2.2.2.2.2.2.2.2.1, d.2.2.2.2.2.2.2.2.2.2.2.2.2.2.1, d.2.2.2.2.2.2.2.2.2.2.2.2.2.2.2.1, d.2.2.2.2.2.2.2.2.2.2.2.2.2.2.2.2.1, d.2.2.2.2.2.2.2.2.2.2.2.2.2.2.2.2.2.1, d.2.2.2.2.2.2.2.2.2.2.2.2.2.2.2.2.2.2.1)
def s122q (k : Nat) (d : AD as122q) := pair_next k d.1 d.2.1 d.2.2.1 d.2.2.2.1 d.2.2.2.2.1 d.2.2.2.2.2.1
def R122q : Nat × Entry := (127, fun k nm args h => entry as122q rs122q (s122q k) pk122q nm args h)
theorem ev122q (k : Nat) (d : AD as122q) : evF E122q A122q k 1000 0 Proofs.Try.f127 (absArgs as122q d).1 (absArgs as122q d).2 (outM rs122q up122q) = s122q k d := by
  obtain ⟨_, _, _, _, _, _, _⟩ := d
  kernel_rfl
theorem F122q : FnOK Proofs.Try.prog R122q := fn_b (E := E122q) (A := A122q) (na := 0) (fn := Proofs.Try.f127) (S := s122q) (unpack := up122q) B122q (by kernel_rfl) (loopsOK_of (n := 1) (by kernel_rfl) fun i hi => match i, hi with | 0, _ => ⟨L122_1q, by kernel_rfl, lk122_1q⟩ | i + 1, hi => absurd hi (by omega)) (by kernel_rfl) (by kernel_rfl) (fun _ => rfl) ev122q

/-! ### giro/pair.Run -/
noncomputable def E123q : Env := ⟨Proofs.Try.prog, fun _ => false, sumsOf [R122q, R78q]⟩
def I123_0q : Spec := ⟨[(2, .c (.int .i64)), (6, .c (.lit (.ptr 1001000 0))), (7, .c (.dat true y9q)), (8, .c (.lit (.osl 1001001 none))), (33, .c (.lit (.osl 1001002 none))), (34, .c (.int .i64)), (35, .c (.int .i64))], [.box true [.dat true y5q, .dat true (.sl (.int .i64)), .dat true (.int .i64), .dat true (.sl (.int .i64))], .arr true y9q, .arr true y9q], [(8, none, y9q, false)]⟩
def X0_123_0q : Spec := ⟨[(2, .c (.int .i64)), (6, .c (.lit (.ptr 1001000 0))), (7, .c (.dat true y9q)), (8, .c (.lit (.osl 1001001 none)))], [.box true [.dat true y5q, .dat true (.sl (.int .i64)), .dat true (.int .i64), .dat true (.sl (.int .i64))], .arr true y9q], []⟩
def O123_0q : List (Ex × Spec) := [(.exit 2, X0_123_0q)]
def c123_0q (f : pair_Run_L1T) (d : I123_0q.den) : Option pair_Run_L1X := f d.1.1.1 d.1.2.2.1.1 d.1.2.2.2.2.2.1.1 d.1.2.2.2.2.2.2.1.1 d.2.1.1 d.2.1.2.1 d.2.1.2.2.1 d.2.1.2.2.2.1 d.2.2.1 d.2.2.2.1
def T123_0q : OutD O123_0q → pair_Run_L1X := fun d => (d.1.1.1, d.1.2.2.1.1, d.2.1.1, d.2.1.2.1, d.2.1.2.2.1, d.2.1.2.2.2.1, d.2.2.1)
def e123_0q (base : Nat) (x : pair_Run_L1X) (R : Type) (K : Ex → St → Option R) : Option R := K (.exit 2) (stOf base X0_123_0q (((x.1, ()), (), (x.2.1, ()), (), ()), ((x.2.2.1, x.2.2.2.1, x.2.2.2.2.1, x.2.2.2.2.2.1, ()), x.2.2.2.2.2.2, ())))
def L123_0q : LoopSum := ⟨I123_0q, O123_0q, pair_Run_L1X, fun k d => c123_0q (pair_Run_L1 k k) d, e123_0q⟩
def I123_1q : Spec := ⟨[(2, .c (.int .i64)), (6, .c (.lit (.ptr 1001000 0))), (7, .c (.dat true y9q)), (8, .c (.lit (.osl 1001001 none)))], [.box true [.dat true y5q, .dat true (.sl (.int .i64)), .dat true (.int .i64), .dat true (.sl (.int .i64))], .arr true y9q], [(8, none, y9q, false)]⟩
def X0_123_1q : Spec := ⟨[(6, .c (.lit (.ptr 1001000 0))), (7, .c (.dat true y9q)), (8, .c (.lit (.osl 1001001 none)))], [.box true [.dat true y5q, .dat true (.sl (.int .i64)), .dat true (.int .i64), .dat true (.sl (.int .i64))], .arr true y9q], []⟩
def O123_1q : List (Ex × Spec) := [(.ret, X0_123_1q)]
def c123_1q (f : pair_Run_L0T) (d : I123_1q.den) : Option pair_Run_L0X := f d.1.1.1 d.1.2.2.1.1 d.2.1.1 d.2.1.2.1 d.2.1.2.2.1 d.2.1.2.2.2.1 d.2.2.1
def T123_1q : OutD O123_1q → pair_Run_L0X := fun d => (d.1.2.1.1, d.2.1.1, d.2.1.2.1, d.2.1.2.2.1, d.2.1.2.2.2.1, d.2.2.1)
def e123_1q (base : Nat) (x : pair_Run_L0X) (R : Type) (K : Ex → St → Option R) : Option R := K .ret (stOf base X0_123_1q (((), (x.1, ()), (), ()), ((x.2.1, x.2.2.1, x.2.2.2.1, x.2.2.2.2.1, ()), x.2.2.2.2.2, ())))
def L123_1q : LoopSum := ⟨I123_1q, O123_1q, pair_Run_L0X, fun k d => c123_1q (pair_Run_L0 k k) d, e123_1q⟩
def A123q : Notes := ⟨[], [(7, L123_0q), (2, L123_1q)]⟩
theorem B123q : EnvB E123q := env_n mixed_orders ⟨F122q, F78q, trivial⟩
theorem st123_0q (k : Nat) (rec : pair_Run_L1T) (d : I123_0q.den) : c123_0q (pair_Run_L1b k rec) d = evC E123q A123q k 1000 0 52 (loopAt (loopAt (bodyOf Proofs.Try.f106) 0) 0) (stOf (1000 + loopBase) I123_0q d) (roundK 1000 I123_0q O123_0q T123_0q (c123_0q rec)) := by
  obtain ⟨⟨⟨_, _⟩, _, ⟨_, _⟩, _, _, ⟨_, _⟩, ⟨_, _⟩, _⟩, ⟨⟨_, _, _, _, _⟩, _, _, _⟩⟩ := d
  kernel_rfl
theorem lk123_0q : LoopOK Proofs.Try.prog 1000 0 52 (loopAt (loopAt (bodyOf Proofs.Try.f106) 0) 0) L123_0q :=
  loop_b (A := A123q) (inS := I123_0q) (outs := O123_0q) B123q (loopsOK_none (by kernel_rfl)) T123_0q e123_0q (fun _ _ _ => rfl) (fun k n d => c123_0q (pair_Run_L1 k n) d) (fun _ _ => rfl) (fun k n d => st123_0q k (pair_Run_L1 k n) d)
theorem st123_1q (k : Nat) (rec : pair_Run_L0T) (d : I123_1q.den) : c123_1q (pair_Run_L0b k rec) d = evC E123q A123q k 1000 0 52 (loopAt (bodyOf Proofs.Try.f106) 0) (stOf (1000 + loopBase) I123_1q d) (roundK 1000 I123_1q O123_1q T123_1q (c123_1q rec)) := by
  obtain ⟨⟨⟨_, _⟩, _, ⟨_, _⟩, _, _⟩, ⟨⟨_, _, _, _, _⟩, _, _⟩⟩ := d
  kernel_rfl
theorem lk123_1q : LoopOK Proofs.Try.prog 1000 0 52 (loopAt (bodyOf Proofs.Try.f106) 0) L123_1q :=
  loop_b (A := A123q) (inS := I123_1q) (outs := O123_1q) B123q (loopsOK_of (n := 1) (by kernel_rfl) fun i hi => match i, hi with | 0, _ => ⟨L123_0q, by kernel_rfl, lk123_0q⟩ | i + 1, hi => absurd hi (by omega)) T123_1q e123_1q (fun _ _ _ => rfl) (fun k n d => c123_1q (pair_Run_L0 k n) d) (fun _ _ => rfl) (fun k n d => st123_1q k (pair_Run_L0 k n) d)
def as123q : List AS := [.agg [.dat true y5q, .dat true (.sl (.int .i64)), .dat true (.int .i64), .dat true (.sl (.int .i64))], .c (.dat true y9q), .c (.int .i64)]
def rs123q : RS := .tup [(true, [.fro y5q, .fro (.sl (.int .i64)), .fro (.int .i64), .fro (.sl (.int .i64))]), (false, [.fro y9q]), (false, [.own y9q])]
def pk123q : (List K3q) × (List (List Int)) × (List Int) × (List (List Int)) × (List K2q) × (List K2q) → RL rs123q.cells := fun x => (x.1, x.2.1, x.2.2.1, x.2.2.2.1, x.2.2.2.2.1, x.2.2.2.2.2, ())
def up123q : RL rs123q.cells → (List K3q) × (List (List Int)) × (List Int) × (List (List Int)) × (List K2q) × (List K2q) := fun d => (d.1, d.2.1, d.2.2.1, d.2.2.2.1, d.2.2.2.2.1, d.2.2.2.2.2.1)
def s123q (k : Nat) (d : AD as123q) := pair_Run k d.1 d.2.1 d.2.2.1 d.2.2.2.1 d.2.2.2.2.1 d.2.2.2.2.2.1
def R123q : Nat × Entry := (106, fun k nm args h => entry as123q rs123q (s123q k) pk123q nm args h)
theorem ev123q (k : Nat) (d : AD as123q) : evF E123q A123q k 1000 0 Proofs.Try.f106 (absArgs as123q d).1 (absArgs as123q d).2 (outM rs123q up123q) = s123q k d := by
  obtain ⟨_, _, _, _, _, _, _⟩ := d
  kernel_rfl
theorem F123q : FnOK Proofs.Try.prog R123q := fn_b (E := E123q) (A := A123q) (na := 0) (fn := Proofs.Try.f106) (S := s123q) (unpack := up123q) B123q (by kernel_rfl) (loopsOK_of (n := 1) (by kernel_rfl) fun i hi => match i, hi with | 0, _ => ⟨L123_1q, by kernel_rfl, lk123_1q⟩ | i + 1, hi => absurd hi (by omega)) (by kernel_rfl) (by kernel_rfl) (fun _ => rfl) ev123q

/-! ### giro/settle.some -/
noncomputable def E124q : Env := ⟨Proofs.Try.prog, fun _ => false, sumsOf [R121q, R123q]⟩
def I124_0q : Spec := ⟨[(2, .c (.int .i64)), (6, .c (.lit (.ptr 1001000 0))), (7, .c (.dat true y9q)), (8, .c (.lit (.osl 1001001 none)))], [.box true [.dat true y5q, .dat true (.sl (.int .i64)), .dat true (.int .i64), .dat true (.sl (.int .i64))], .arr true y9q], [(8, none, y9q, false)]⟩
def X0_124_0q : Spec := ⟨[(6, .c (.lit (.ptr 1001000 0))), (7, .c (.dat true y9q)), (8, .c (.lit (.osl 1001001 none)))], [.box true [.dat true y5q, .dat true (.sl (.int .i64)), .dat true (.int .i64), .dat true (.sl (.int .i64))], .arr true y9q], []⟩
def O124_0q : List (Ex × Spec) := [(.ret, X0_124_0q)]
def c124_0q (f : settle_some_L0T) (d : I124_0q.den) : Option settle_some_L0X := f d.1.1.1 d.1.2.2.1.1 d.2.1.1 d.2.1.2.1 d.2.1.2.2.1 d.2.1.2.2.2.1 d.2.2.1
def T124_0q : OutD O124_0q → settle_some_L0X := fun d => (d.1.2.1.1, d.2.1.1, d.2.1.2.1, d.2.1.2.2.1, d.2.1.2.2.2.1, d.2.2.1)
def e124_0q (base : Nat) (x : settle_some_L0X) (R : Type) (K : Ex → St → Option R) : Option R := K .ret (stOf base X0_124_0q (((), (x.1, ()), (), ()), ((x.2.1, x.2.2.1, x.2.2.2.1, x.2.2.2.2.1, ()), x.2.2.2.2.2, ())))
def L124_0q : LoopSum := ⟨I124_0q, O124_0q, settle_some_L0X, fun k d => c124_0q (settle_some_L0 k k) d, e124_0q⟩
def A124q : Notes := ⟨[], [(2, L124_0q)]⟩
theorem B124q : EnvB E124q := env_n mixed_orders ⟨F121q, F123q, trivial⟩
theorem st124_0q (k : Nat) (rec : settle_some_L0T) (d : I124_0q.den) : c124_0q (settle_some_L0b k rec) d = evC E124q A124q k 1000 0 40 (loopAt (bodyOf Proofs.Try.f68) 0) (stOf (1000 + loopBase) I124_0q d) (roundK 1000 I124_0q O124_0q T124_0q (c124_0q rec)) := by
  obtain ⟨⟨⟨_, _⟩, _, ⟨_, _⟩, _, _⟩, ⟨⟨_, _, _, _, _⟩, _, _⟩⟩ := d
  kernel_rfl
theorem lk124_0q : LoopOK Proofs.Try.prog 1000 0 40 (loopAt (bodyOf Proofs.Try.f68) 0) L124_0q :=
  loop_b (A := A124q) (inS := I124_0q) (outs := O124_0q) B124q (loopsOK_none (by kernel_rfl)) T124_0q e124_0q (fun _ _ _ => rfl) (fun k n d => c124_0q (settle_some_L0 k n) d) (fun _ _ => rfl) (fun k n d => st124_0q k (settle_some_L0 k n) d)
def as124q : List AS := [.agg [.dat true y5q, .dat true (.sl (.int .i64)), .dat true (.int .i64), .dat true (.sl (.int .i64))], .c (.dat true y9q), .c (.int .i64)]
def rs124q : RS := .tup [(true, [.fro y5q, .fro (.sl (.int .i64)), .fro (.int .i64), .fro (.sl (.int .i64))]), (false, [.fro y9q]), (false, [.own y9q])]
def pk124q : (List K3q) × (List (List Int)) × (List Int) × (List (List Int)) × (List K2q) × (List K2q) → RL rs124q.cells := fun x => (x.1, x.2.1, x.2.2.1, x.2.2.2.1, x.2.2.2.2.1, x.2.2.2.2.2, ())
def up124q : RL rs124q.cells → (List K3q) × (List (List Int)) × (List Int) × (List (List Int)) × (List K2q) × (List K2q) := fun d => (d.1, d.2.1, d.2.2.1, d.2.2.2.1, d.2.2.2.2.1, d.2.2.2.2.2.1)
def s124q (k : Nat) (d : AD as124q) := settle_some k d.1 d.2.1 d.2.2.1 d.2.2.2.1 d.2.2.2.2.1 d.2.2.2.2.2.1
def R124q : Nat × Entry := (68, fun k nm args h => entry as124q rs124q (s124q k) pk124q nm args h)
theorem ev124q (k : Nat) (d : AD as124q) : evF E124q A124q k 1000 0 Proofs.Try.f68 (absArgs as124q d).1 (absArgs as124q d).2 (outM rs124q up124q) = s124q k d := by
  obtain ⟨_, _, _, _, _, _, _⟩ := d
  kernel_rfl
theorem F124q : FnOK Proofs.Try.prog R124q := fn_b (E := E124q) (A := A124q) (na := 0) (fn := Proofs.Try.f68) (S := s124q) (unpack := up124q) B124q (by kernel_rfl) (loopsOK_of (n := 1) (by kernel_rfl) fun i hi => match i, hi with | 0, _ => ⟨L124_0q, by kernel_rfl, lk124_0q⟩ | i + 1, hi => absurd hi (by omega)) (by kernel_rfl) (by kernel_rfl) (fun _ => rfl) ev124q

/-! ### giro/settle.Run -/
noncomputable def E125q : Env := ⟨Proofs.Try.prog, fun _ => false, sumsOf [R124q, R79q]⟩
def A125q : Notes := ⟨[], []⟩
theorem B125q : EnvB E125q := env_n mixed_orders ⟨F124q, F79q, trivial⟩
def as125q : List AS := [.agg [.dat true y5q, .dat true (.sl (.int .i64)), .dat true (.int .i64), .dat true (.sl (.int .i64))], .c (.dat true y9q), .c (.int .i64), .c (.bool)]
def rs125q : RS := .tup [(true, [.fro y5q, .fro (.sl (.int .i64)), .fro (.int .i64), .fro (.sl (.int .i64))]), (false, [.fro y9q]), (false, [.own y9q])]
def pk125q : (List K3q) × (List (List Int)) × (List Int) × (List (List Int)) × (List K2q) × (List K2q) → RL rs125q.cells := fun x => (x.1, x.2.1, x.2.2.1, x.2.2.2.1, x.2.2.2.2.1, x.2.2.2.2.2, ())
def up125q : RL rs125q.cells → (List K3q) × (List (List Int)) × (List Int) × (List (List Int)) × (List K2q) × (List K2q) := fun d => (d.1, d.2.1, d.2.2.1, d.2.2.2.1, d.2.2.2.2.1, d.2.2.2.2.2.1)
def s125q (k : Nat) (d : AD as125q) := settle_Run k d.1 d.2.1 d.2.2.1 d.2.2.2.1 d.2.2.2.2.1 d.2.2.2.2.2.1 d.2.2.2.2.2.2.1
def R125q : Nat × Entry := (34, fun k nm args h => entry as125q rs125q (s125q k) pk125q nm args h)
theorem ev125q (k : Nat) (d : AD as125q) : evF E125q A125q k 1000 0 Proofs.Try.f34 (absArgs as125q d).1 (absArgs as125q d).2 (outM rs125q up125q) = s125q k d := by
  obtain ⟨_, _, _, _, _, _, _, _⟩ := d
  kernel_rfl
theorem F125q : FnOK Proofs.Try.prog R125q := fn_b (E := E125q) (A := A125q) (na := 0) (fn := Proofs.Try.f34) (S := s125q) (unpack := up125q) B125q (by kernel_rfl) (loopsOK_none (by kernel_rfl)) (by kernel_rfl) (by kernel_rfl) (fun _ => rfl) ev125q

/-! ### giro/hour.out -/
noncomputable def E134q : Env := ⟨Proofs.Try.prog, fun _ => false, sumsOf []⟩
def A134q : Notes := ⟨[], []⟩
theorem B134q : EnvB E134q := env_n mixed_orders trivial
def as134q : List AS := [.c (.int .i64), .c (.int .i64), .c (.dat false (.int .i64))]
def rs134q : RS := .agg [.int .i64, .int .i64, .int .i64, .int .i64, .int .i64, .int .i64, .int .i64, .int .i64]
def pk134q : Int × Int × Int × Int × Int × Int × Int × Int → RL rs134q.cells := fun x => (x.1, x.2.1, x.2.2.1, x.2.2.2.1, x.2.2.2.2.1, x.2.2.2.2.2.1, x.2.2.2.2.2.2.1, x.2.2.2.2.2.2.2, ())
def up134q : RL rs134q.cells → Int × Int × Int × Int × Int × Int × Int × Int := fun d => (d.1, d.2.1, d.2.2.1, d.2.2.2.1, d.2.2.2.2.1, d.2.2.2.2.2.1, d.2.2.2.2.2.2.1, d.2.2.2.2.2.2.2.1)
def s134q (k : Nat) (d : AD as134q) := hour_out k d.1 d.2.1 d.2.2.1
def R134q : Nat × Entry := (72, fun k nm args h => entry as134q rs134q (s134q k) pk134q nm args h)
theorem ev134q (k : Nat) (d : AD as134q) : evF E134q A134q k 1000 0 Proofs.Try.f72 (absArgs as134q d).1 (absArgs as134q d).2 (outM rs134q up134q) = s134q k d := by
  obtain ⟨_, _, _, _⟩ := d
  kernel_rfl
theorem F134q : FnOK Proofs.Try.prog R134q := fn_b (E := E134q) (A := A134q) (na := 0) (fn := Proofs.Try.f72) (S := s134q) (unpack := up134q) B134q (by kernel_rfl) (loopsOK_none (by kernel_rfl)) (by kernel_rfl) (by kernel_rfl) (fun _ => rfl) ev134q

/-! ### giro/hour.Told -/
noncomputable def E135q : Env := ⟨Proofs.Try.prog, fun _ => false, sumsOf [R134q]⟩
def I135_0q : Spec := ⟨[(3, .c (.lit (.osl 1001000 none))), (5, .c (.lit (.ptr 1001001 0))), (8, .c (.dat false y9q)), (9, .c (.int .i64)), (10, .c (.int .i64)), (18, .c (.lit (.osl 1001002 none))), (19, .c (.int .i64)), (20, .c (.int .i64))], [.arr true y10q, .box true [.int .i64, .int .i64, .int .i64, .int .i64, .int .i64, .int .i64, .int .i64], .arr true (.int .i64)], [(3, none, y10q, false)]⟩
def X0_135_0q : Spec := ⟨[(3, .c (.lit (.osl 1001000 none))), (8, .c (.dat false y9q)), (9, .c (.int .i64)), (10, .c (.int .i64))], [.arr true y10q], []⟩
def O135_0q : List (Ex × Spec) := [(.exit 2, X0_135_0q)]
def c135_0q (f : hour_Told_L1T) (d : I135_0q.den) : Option hour_Told_L1X := f d.1.2.2.1.1 d.1.2.2.2.1.1 d.1.2.2.2.2.1.1 d.1.2.2.2.2.2.2.1.1 d.1.2.2.2.2.2.2.2.1.1 d.2.1 d.2.2.1.1 d.2.2.1.2.1 d.2.2.1.2.2.1 d.2.2.1.2.2.2.1 d.2.2.1.2.2.2.2.1 d.2.2.1.2.2.2.2.2.1 d.2.2.1.2.2.2.2.2.2.1 d.2.2.2.1
def T135_0q : OutD O135_0q → hour_Told_L1X := fun d => (d.1.2.1.1, d.1.2.2.1.1, d.1.2.2.2.1.1, d.2.1)
def e135_0q (base : Nat) (x : hour_Told_L1X) (R : Type) (K : Ex → St → Option R) : Option R := K (.exit 2) (stOf base X0_135_0q (((), (x.1, ()), (x.2.1, ()), (x.2.2.1, ()), ()), (x.2.2.2, ())))
def L135_0q : LoopSum := ⟨I135_0q, O135_0q, hour_Told_L1X, fun k d => c135_0q (hour_Told_L1 k k) d, e135_0q⟩
def I135_1q : Spec := ⟨[(3, .c (.lit (.osl 1001000 none))), (8, .c (.dat false y9q)), (9, .c (.int .i64)), (10, .c (.int .i64))], [.arr true y10q], [(3, none, y10q, false)]⟩
def X0_135_1q : Spec := ⟨[(3, .c (.lit (.osl 1001000 none)))], [.arr true y10q], []⟩
def O135_1q : List (Ex × Spec) := [(.exit 0, X0_135_1q)]
def c135_1q (f : hour_Told_L0T) (d : I135_1q.den) : Option hour_Told_L0X := f d.1.2.1.1 d.1.2.2.1.1 d.1.2.2.2.1.1 d.2.1
def T135_1q : OutD O135_1q → hour_Told_L0X := fun d => d.2.1
def e135_1q (base : Nat) (x : hour_Told_L0X) (R : Type) (K : Ex → St → Option R) : Option R := K (.exit 0) (stOf base X0_135_1q (((), ()), (x, ())))
def L135_1q : LoopSum := ⟨I135_1q, O135_1q, hour_Told_L0X, fun k d => c135_1q (hour_Told_L0 k k) d, e135_1q⟩
def A135q : Notes := ⟨[], [(6, L135_0q), (3, L135_1q)]⟩
theorem B135q : EnvB E135q := env_n mixed_orders ⟨F134q, trivial⟩
theorem st135_0q (k : Nat) (rec : hour_Told_L1T) (d : I135_0q.den) : c135_0q (hour_Told_L1b k rec) d = evC E135q A135q k 1000 0 41 (loopAt (loopAt (bodyOf Proofs.Try.f40) 0) 0) (stOf (1000 + loopBase) I135_0q d) (roundK 1000 I135_0q O135_0q T135_0q (c135_0q rec)) := by
  obtain ⟨⟨_, _, ⟨_, _⟩, ⟨_, _⟩, ⟨_, _⟩, _, ⟨_, _⟩, ⟨_, _⟩, _⟩, ⟨_, ⟨_, _, _, _, _, _, _, _⟩, _, _⟩⟩ := d
  kernel_rfl
theorem lk135_0q : LoopOK Proofs.Try.prog 1000 0 41 (loopAt (loopAt (bodyOf Proofs.Try.f40) 0) 0) L135_0q :=
  loop_b (A := A135q) (inS := I135_0q) (outs := O135_0q) B135q (loopsOK_none (by kernel_rfl)) T135_0q e135_0q (fun _ _ _ => rfl) (fun k n d => c135_0q (hour_Told_L1 k n) d) (fun _ _ => rfl) (fun k n d => st135_0q k (hour_Told_L1 k n) d)
theorem st135_1q (k : Nat) (rec : hour_Told_L0T) (d : I135_1q.den) : c135_1q (hour_Told_L0b k rec) d = evC E135q A135q k 1000 0 41 (loopAt (bodyOf Proofs.Try.f40) 0) (stOf (1000 + loopBase) I135_1q d) (roundK 1000 I135_1q O135_1q T135_1q (c135_1q rec)) := by
  obtain ⟨⟨_, ⟨_, _⟩, ⟨_, _⟩, ⟨_, _⟩, _⟩, ⟨_, _⟩⟩ := d
  kernel_rfl
theorem lk135_1q : LoopOK Proofs.Try.prog 1000 0 41 (loopAt (bodyOf Proofs.Try.f40) 0) L135_1q :=
  loop_b (A := A135q) (inS := I135_1q) (outs := O135_1q) B135q (loopsOK_of (n := 1) (by kernel_rfl) fun i hi => match i, hi with | 0, _ => ⟨L135_0q, by kernel_rfl, lk135_0q⟩ | i + 1, hi => absurd hi (by omega)) T135_1q e135_1q (fun _ _ _ => rfl) (fun k n d => c135_1q (hour_Told_L0 k n) d) (fun _ _ => rfl) (fun k n d => st135_1q k (hour_Told_L0 k n) d)
def as135q : List AS := [.c (.dat false y9q)]
def rs135q : RS := .c (.own y10q)
def pk135q : List K1q → RL rs135q.cells := fun x => (x, ())
def up135q : RL rs135q.cells → List K1q := fun d => d.1
def s135q (k : Nat) (d : AD as135q) := hour_Told k d.1
def R135q : Nat × Entry := (40, fun k nm args h => entry as135q rs135q (s135q k) pk135q nm args h)
theorem ev135q (k : Nat) (d : AD as135q) : evF E135q A135q k 1000 0 Proofs.Try.f40 (absArgs as135q d).1 (absArgs as135q d).2 (outM rs135q up135q) = s135q k d := by
  obtain ⟨_, _⟩ := d
  kernel_rfl
theorem F135q : FnOK Proofs.Try.prog R135q := fn_b (E := E135q) (A := A135q) (na := 0) (fn := Proofs.Try.f40) (S := s135q) (unpack := up135q) B135q (by kernel_rfl) (loopsOK_of (n := 1) (by kernel_rfl) fun i hi => match i, hi with | 0, _ => ⟨L135_1q, by kernel_rfl, lk135_1q⟩ | i + 1, hi => absurd hi (by omega)) (by kernel_rfl) (by kernel_rfl) (fun _ => rfl) ev135q

/-! ### giro/giroref3.Of -/
noncomputable def E136q : Env := ⟨Proofs.Try.prog, fun _ => false, sumsOf []⟩
def I136_0q : Spec := ⟨[(1, .c (.dat false (.int .i64))), (4, .c (.lit (.ptr 1001000 0))), (5, .c (.lit (.ptr 1001001 0))), (6, .c (.int .i64))], [.box true [.int .i64, .int .i64, .int .i64, .int .i64, .int .i64, .int .i64, .int .i64], .box true [.int .i64, .int .i64, .int .i64, .int .i64, .int .i64, .int .i64, .int .i64]], []⟩
def X0_136_0q : Spec := ⟨[(4, .c (.lit (.ptr 1001000 0))), (5, .c (.lit (.ptr 1001001 0)))], [.box true [.int .i64, .int .i64, .int .i64, .int .i64, .int .i64, .int .i64, .int .i64], .box true [.int .i64, .int .i64, .int .i64, .int .i64, .int .i64, .int .i64, .int .i64]], []⟩
def O136_0q : List (Ex × Spec) := [(.exit 0, X0_136_0q)]
def c136_0q (f : giroref3_Of_L0T) (d : I136_0q.den) : Option giroref3_Of_L0X := f d.1.1.1 d.1.2.2.2.1.1 d.2.1.1 d.2.1.2.1 d.2.1.2.2.1 d.2.1.2.2.2.1 d.2.1.2.2.2.2.1 d.2.1.2.2.2.2.2.1 d.2.1.2.2.2.2.2.2.1 d.2.2.1.1 d.2.2.1.2.1 d.2.2.1.2.2.1 d.2.2.1.2.2.2.1 d.2.2.1.2.2.2.2.1 d.2.2.1.2.2.2.2.2.1 d.2.2.1.2.2.2.2.2.2.1
def T136_0q : OutD O136_0q → giroref3_Of_L0X := fun d => (d.2.1.1, d.2.1.2.1, d.2.1.2.2.1, d.2.1.2.2.2.1, d.2.1.2.2.2.2.1, d.2.1.2.2.2.2.2.1, d.2.1.2.2.2.2.2.2.1, d.2.2.1.1, d.2.2.1.2.1, d.2.2.1.2.2.1, d.2.2.1.2.2.2.1, d.2.2.1.2.2.2.2.1, d.2.2.1.2.2.2.2.2.1, d.2.2.1.2.2.2.2.2.2.1)
def e136_0q (base : Nat) (x : giroref3_Of_L0X) (R : Type) (K : Ex → St → Option R) : Option R := K (.exit 0) (stOf base X0_136_0q (((), (), ()), ((x.1, x.2.1, x.2.2.1, x.2.2.2.1, x.2.2.2.2.1, x.2.2.2.2.2.1, x.2.2.2.2.2.2.1, ()), (x.2.2.2.2.2.2.2.1, x.2.2.2.2.2.2.2.2.1, x.2.2.2.2.2.2.2.2.2.1, x.2.2.2.2.2.2.2.2.2.2.1, x.2.2.2.2.2.2.2.2.2.2.2.1, x.2.2.2.2.2.2.2.2.2.2.2.2.1, x.2.2.2.2.2.2.2.2.2.2.2.2.2, ()), ())))
def L136_0q : LoopSum := ⟨I136_0q, O136_0q, giroref3_Of_L0X, fun k d => c136_0q (giroref3_Of_L0 k k) d, e136_0q⟩
def A136q : Notes := ⟨[], [(3, L136_0q)]⟩
theorem B136q : EnvB E136q := env_n mixed_orders trivial
theorem st136_0q (k : Nat) (rec : giroref3_Of_L0T) (d : I136_0q.den) : c136_0q (giroref3_Of_L0b k rec) d = evC E136q A136q k 1000 0 27 (loopAt (bodyOf Proofs.Try.f73) 0) (stOf (1000 + loopBase) I136_0q d) (roundK 1000 I136_0q O136_0q T136_0q (c136_0q rec)) := by
  obtain ⟨⟨⟨_, _⟩, _, _, ⟨_, _⟩, _⟩, ⟨⟨_, _, _, _, _, _, _, _⟩, ⟨_, _, _, _, _, _, _, _⟩, _⟩⟩ := d
  kernel_rfl
theorem lk136_0q : LoopOK Proofs.Try.prog 1000 0 27 (loopAt (bodyOf Proofs.Try.f73) 0) L136_0q :=
  loop_b (A := A136q) (inS := I136_0q) (outs := O136_0q) B136q (loopsOK_none (by kernel_rfl)) T136_0q e136_0q (fun _ _ _ => rfl) (fun k n d => c136_0q (giroref3_Of_L0 k n) d) (fun _ _ => rfl) (fun k n d => st136_0q k (giroref3_Of_L0 k n) d)
def as136q : List AS := [.c (.int .i64), .c (.dat false (.int .i64))]
def rs136q : RS := .agg [.int .i64, .int .i64, .int .i64, .int .i64, .int .i64, .int .i64, .int .i64]
def pk136q : Int × Int × Int × Int × Int × Int × Int → RL rs136q.cells := fun x => (x.1, x.2.1, x.2.2.1, x.2.2.2.1, x.2.2.2.2.1, x.2.2.2.2.2.1, x.2.2.2.2.2.2, ())
def up136q : RL rs136q.cells → Int × Int × Int × Int × Int × Int × Int := fun d => (d.1, d.2.1, d.2.2.1, d.2.2.2.1, d.2.2.2.2.1, d.2.2.2.2.2.1, d.2.2.2.2.2.2.1)
def s136q (k : Nat) (d : AD as136q) := giroref3_Of k d.1 d.2.1
def R136q : Nat × Entry := (73, fun k nm args h => entry as136q rs136q (s136q k) pk136q nm args h)
theorem ev136q (k : Nat) (d : AD as136q) : evF E136q A136q k 1000 0 Proofs.Try.f73 (absArgs as136q d).1 (absArgs as136q d).2 (outM rs136q up136q) = s136q k d := by
  obtain ⟨_, _, _⟩ := d
  kernel_rfl
theorem F136q : FnOK Proofs.Try.prog R136q := fn_b (E := E136q) (A := A136q) (na := 0) (fn := Proofs.Try.f73) (S := s136q) (unpack := up136q) B136q (by kernel_rfl) (loopsOK_of (n := 1) (by kernel_rfl) fun i hi => match i, hi with | 0, _ => ⟨L136_0q, by kernel_rfl, lk136_0q⟩ | i + 1, hi => absurd hi (by omega)) (by kernel_rfl) (by kernel_rfl) (fun _ => rfl) ev136q

/-! ### giro/girolaw22.rules -/
noncomputable def E139q : Env := ⟨Proofs.Try.prog, fun _ => false, sumsOf []⟩
def A139q : Notes := ⟨[], []⟩
theorem B139q : EnvB E139q := env_n mixed_orders trivial
def as139q : List AS := [.c (.int .i64)]
def rs139q : RS := .agg [.int .i64, .own y0q, .int .i64, .int .i64, .int .i64]
def pk139q : Int × (List K4q) × Int × Int × Int → RL rs139q.cells := fun x => (x.1, x.2.1, x.2.2.1, x.2.2.2.1, x.2.2.2.2, ())
def up139q : RL rs139q.cells → Int × (List K4q) × Int × Int × Int := fun d => (d.1, d.2.1, d.2.2.1, d.2.2.2.1, d.2.2.2.2.1)
def s139q (k : Nat) (d : AD as139q) := girolaw22_rules k d.1
def R139q : Nat × Entry := (43, fun k nm args h => entry as139q rs139q (s139q k) pk139q nm args h)
theorem ev139q (k : Nat) (d : AD as139q) : evF E139q A139q k 1000 0 Proofs.Try.f43 (absArgs as139q d).1 (absArgs as139q d).2 (outM rs139q up139q) = s139q k d := by
  obtain ⟨_, _⟩ := d
  kernel_rfl
theorem F139q : FnOK Proofs.Try.prog R139q := fn_b (E := E139q) (A := A139q) (na := 0) (fn := Proofs.Try.f43) (S := s139q) (unpack := up139q) B139q (by kernel_rfl) (loopsOK_none (by kernel_rfl)) (by kernel_rfl) (by kernel_rfl) (fun _ => rfl) ev139q

/-! ### giro/girolaw22.some -/
noncomputable def E140q : Env := ⟨Proofs.Try.prog, fun _ => false, sumsOf []⟩
def I140_0q : Spec := ⟨[(0, .c (.dat false (.int .i64))), (1, .c (.int .i64)), (4, .c (.lit (.ptr 1001000 0))), (5, .c (.lit (.ptr 1001001 0))), (6, .c (.int .i64))], [.box true [.lit .nsl, .lit .nsl, .lit .nsl, .lit .nsl], .box true [.lit (.osl 1001002 none), .lit (.osl 1001003 none), .lit (.osl 1001004 none), .lit (.osl 1001005 none)], .arr true y5q, .mat, .arr true (.int .i64), .mat], [(5, some 0, y5q, false)]⟩
def X0_140_0q : Spec := ⟨[(1, .c (.int .i64)), (4, .c (.lit (.ptr 1001000 0))), (5, .c (.lit (.ptr 1001001 0)))], [.box true [.lit .nsl, .lit .nsl, .lit .nsl, .lit .nsl], .box true [.lit (.osl 1001002 none), .lit (.osl 1001003 none), .lit (.osl 1001004 none), .lit (.osl 1001005 none)], .arr true y5q, .mat, .arr true (.int .i64), .mat], []⟩
def O140_0q : List (Ex × Spec) := [(.exit 0, X0_140_0q)]
def c140_0q (f : girolaw22_some_L0T) (d : I140_0q.den) : Option girolaw22_some_L0X := f d.1.1.1 d.1.2.1.1 d.1.2.2.2.2.1.1 d.2.2.2.1 d.2.2.2.2.1 d.2.2.2.2.2.1 d.2.2.2.2.2.2.1
def T140_0q : OutD O140_0q → girolaw22_some_L0X := fun d => (d.1.1.1, d.2.2.2.1, d.2.2.2.2.1, d.2.2.2.2.2.1, d.2.2.2.2.2.2.1)
def e140_0q (base : Nat) (x : girolaw22_some_L0X) (R : Type) (K : Ex → St → Option R) : Option R := K (.exit 0) (stOf base X0_140_0q (((x.1, ()), (), (), ()), ((), (), x.2.1, x.2.2.1, x.2.2.2.1, x.2.2.2.2, ())))
def L140_0q : LoopSum := ⟨I140_0q, O140_0q, girolaw22_some_L0X, fun k d => c140_0q (girolaw22_some_L0 k k) d, e140_0q⟩
def A140q : Notes := ⟨[11, 16], [(3, L140_0q)]⟩
theorem B140q : EnvB E140q := env_n mixed_orders trivial
theorem st140_0q (k : Nat) (rec : girolaw22_some_L0T) (d : I140_0q.den) : c140_0q (girolaw22_some_L0b k rec) d = evC E140q A140q k 1000 0 91 (loopAt (bodyOf Proofs.Try.f74) 0) (stOf (1000 + loopBase) I140_0q d) (roundK 1000 I140_0q O140_0q T140_0q (c140_0q rec)) := by
  obtain ⟨⟨⟨_, _⟩, ⟨_, _⟩, _, _, ⟨_, _⟩, _⟩, ⟨_, _, _, _, _, _, _⟩⟩ := d
  kernel_rfl
theorem lk140_0q : LoopOK Proofs.Try.prog 1000 0 91 (loopAt (bodyOf Proofs.Try.f74) 0) L140_0q :=
  loop_b (A := A140q) (inS := I140_0q) (outs := O140_0q) B140q (loopsOK_none (by kernel_rfl)) T140_0q e140_0q (fun _ _ _ => rfl) (fun k n d => c140_0q (girolaw22_some_L0 k n) d) (fun _ _ => rfl) (fun k n d => st140_0q k (girolaw22_some_L0 k n) d)
def as140q : List AS := [.c (.dat false (.int .i64)), .c (.int .i64)]
def rs140q : RS := .agg [.own y5q, .mat, .own (.int .i64), .mat]
def pk140q : (List K3q) × (List (List Int)) × (List Int) × (List (List Int)) → RL rs140q.cells := fun x => (x.1, x.2.1, x.2.2.1, x.2.2.2, ())
def up140q : RL rs140q.cells → (List K3q) × (List (List Int)) × (List Int) × (List (List Int)) := fun d => (d.1, d.2.1, d.2.2.1, d.2.2.2.1)
def s140q (k : Nat) (d : AD as140q) := girolaw22_some k d.1 d.2.1
def R140q : Nat × Entry := (74, fun k nm args h => entry as140q rs140q (s140q k) pk140q nm args h)
theorem ev140q (k : Nat) (d : AD as140q) : evF E140q A140q k 1000 0 Proofs.Try.f74 (absArgs as140q d).1 (absArgs as140q d).2 (outM rs140q up140q) = s140q k d := by
  obtain ⟨_, _, _⟩ := d
  kernel_rfl
theorem F140q : FnOK Proofs.Try.prog R140q := fn_b (E := E140q) (A := A140q) (na := 0) (fn := Proofs.Try.f74) (S := s140q) (unpack := up140q) B140q (by kernel_rfl) (loopsOK_of (n := 1) (by kernel_rfl) fun i hi => match i, hi with | 0, _ => ⟨L140_0q, by kernel_rfl, lk140_0q⟩ | i + 1, hi => absurd hi (by omega)) (by kernel_rfl) (by kernel_rfl) (fun _ => rfl) ev140q

/-! ### giro/girolaw22.rowed -/
noncomputable def E141q : Env := ⟨Proofs.Try.prog, fun _ => false, sumsOf [R5q]⟩
def I141_0q : Spec := ⟨[(0, .c (.dat false y9q)), (3, .c (.dat true y9q)), (4, .c (.int .i64))], [], []⟩
def X0_141_0q : Spec := ⟨[(3, .c (.dat true y9q))], [], []⟩
def O141_0q : List (Ex × Spec) := [(.exit 0, X0_141_0q)]
def c141_0q (f : girolaw22_rowed_L0T) (d : I141_0q.den) : Option girolaw22_rowed_L0X := f d.1.1.1 d.1.2.1.1 d.1.2.2.1.1
def T141_0q : OutD O141_0q → girolaw22_rowed_L0X := fun d => d.1.1.1
def e141_0q (base : Nat) (x : girolaw22_rowed_L0X) (R : Type) (K : Ex → St → Option R) : Option R := K (.exit 0) (stOf base X0_141_0q (((x, ()), ()), ()))
def L141_0q : LoopSum := ⟨I141_0q, O141_0q, girolaw22_rowed_L0X, fun k d => c141_0q (girolaw22_rowed_L0 k k) d, e141_0q⟩
def A141q : Notes := ⟨[], [(3, L141_0q)]⟩
theorem B141q : EnvB E141q := env_n mixed_orders ⟨F5q, trivial⟩
theorem st141_0q (k : Nat) (rec : girolaw22_rowed_L0T) (d : I141_0q.den) : c141_0q (girolaw22_rowed_L0b k rec) d = evC E141q A141q k 1000 0 74 (loopAt (bodyOf Proofs.Try.f75) 0) (stOf (1000 + loopBase) I141_0q d) (roundK 1000 I141_0q O141_0q T141_0q (c141_0q rec)) := by
  obtain ⟨⟨⟨_, _⟩, ⟨_, _⟩, ⟨_, _⟩, _⟩, _⟩ := d
  kernel_rfl
theorem lk141_0q : LoopOK Proofs.Try.prog 1000 0 74 (loopAt (bodyOf Proofs.Try.f75) 0) L141_0q :=
  loop_b (A := A141q) (inS := I141_0q) (outs := O141_0q) B141q (loopsOK_none (by kernel_rfl)) T141_0q e141_0q (fun _ _ _ => rfl) (fun k n d => c141_0q (girolaw22_rowed_L0 k n) d) (fun _ _ => rfl) (fun k n d => st141_0q k (girolaw22_rowed_L0 k n) d)
def as141q : List AS := [.c (.dat false y9q)]
def rs141q : RS := .c (.fro y9q)
def pk141q : List K2q → RL rs141q.cells := fun x => (x, ())
def up141q : RL rs141q.cells → List K2q := fun d => d.1
def s141q (k : Nat) (d : AD as141q) := girolaw22_rowed k d.1
def R141q : Nat × Entry := (75, fun k nm args h => entry as141q rs141q (s141q k) pk141q nm args h)
theorem ev141q (k : Nat) (d : AD as141q) : evF E141q A141q k 1000 0 Proofs.Try.f75 (absArgs as141q d).1 (absArgs as141q d).2 (outM rs141q up141q) = s141q k d := by
  obtain ⟨_, _⟩ := d
  kernel_rfl
theorem F141q : FnOK Proofs.Try.prog R141q := fn_b (E := E141q) (A := A141q) (na := 0) (fn := Proofs.Try.f75) (S := s141q) (unpack := up141q) B141q (by kernel_rfl) (loopsOK_of (n := 1) (by kernel_rfl) fun i hi => match i, hi with | 0, _ => ⟨L141_0q, by kernel_rfl, lk141_0q⟩ | i + 1, hi => absurd hi (by omega)) (by kernel_rfl) (by kernel_rfl) (fun _ => rfl) ev141q

/-! ### giro/girolaw22.state -/
noncomputable def E142q : Env := ⟨Proofs.Try.prog, fun _ => false, sumsOf [R140q, R141q]⟩
def A142q : Notes := ⟨[], []⟩
theorem B142q : EnvB E142q := env_n mixed_orders ⟨F140q, F141q, trivial⟩
def as142q : List AS := [.c (.dat false (.int .i64)), .c (.int .i64), .c (.dat false y9q), .c (.int .i64)]
def rs142q : RS := .agg [.int .i64, .own y5q, .mat, .own (.int .i64), .mat, .own (.int .i64), .mat, .fro y9q, .own (.int .i64), .int .i64, .bool]
def pk142q : Int × (List K3q) × (List (List Int)) × (List Int) × (List (List Int)) × (List Int) × (List (List Int)) × (List K2q) × (List Int) × Int × Bool → RL rs142q.cells := fun x => (x.1, x.2.1, x.2.2.1, x.2.2.2.1, x.2.2.2.2.1, x.2.2.2.2.2.1, x.2.2.2.2.2.2.1, x.2.2.2.2.2.2.2.1, x.2.2.2.2.2.2.2.2.1, x.2.2.2.2.2.2.2.2.2.1, x.2.2.2.2.2.2.2.2.2.2, ())
def up142q : RL rs142q.cells → Int × (List K3q) × (List (List Int)) × (List Int) × (List (List Int)) × (List Int) × (List (List Int)) × (List K2q) × (List Int) × Int × Bool := fun d => (d.1, d.2.1, d.2.2.1, d.2.2.2.1, d.2.2.2.2.1, d.2.2.2.2.2.1, d.2.2.2.2.2.2.1, d.2.2.2.2.2.2.2.1, d.2.2.2.2.2.2.2.2.1, d.2.2.2.2.2.2.2.2.2.1, d.2.2.2.2.2.2.2.2.2.2.1)
def s142q (k : Nat) (d : AD as142q) := girolaw22_state k d.1 d.2.1 d.2.2.1 d.2.2.2.1
def R142q : Nat × Entry := (44, fun k nm args h => entry as142q rs142q (s142q k) pk142q nm args h)
theorem ev142q (k : Nat) (d : AD as142q) : evF E142q A142q k 1000 0 Proofs.Try.f44 (absArgs as142q d).1 (absArgs as142q d).2 (outM rs142q up142q) = s142q k d := by
  obtain ⟨_, _, _, _, _⟩ := d
  kernel_rfl
theorem F142q : FnOK Proofs.Try.prog R142q := fn_b (E := E142q) (A := A142q) (na := 0) (fn := Proofs.Try.f44) (S := s142q) (unpack := up142q) B142q (by kernel_rfl) (loopsOK_none (by kernel_rfl)) (by kernel_rfl) (by kernel_rfl) (fun _ => rfl) ev142q

/-! ### giro/day.Closes -/
noncomputable def E143q : Env := ⟨Proofs.Try.prog, fun _ => false, sumsOf []⟩
def A143q : Notes := ⟨[], []⟩
theorem B143q : EnvB E143q := env_n mixed_orders trivial
def as143q : List AS := [.agg [.int .i64, .dat false y0q, .int .i64, .int .i64, .int .i64], .c (.int .i64)]
def rs143q : RS := .c (.bool)
def pk143q : Bool → RL rs143q.cells := fun x => (x, ())
def up143q : RL rs143q.cells → Bool := fun d => d.1
def s143q (k : Nat) (d : AD as143q) := day_Closes k d.1 d.2.1 d.2.2.1 d.2.2.2.1 d.2.2.2.2.1 d.2.2.2.2.2.1
def R143q : Nat × Entry := (76, fun k nm args h => entry as143q rs143q (s143q k) pk143q nm args h)
theorem ev143q (k : Nat) (d : AD as143q) : evF E143q A143q k 1000 0 Proofs.Try.f76 (absArgs as143q d).1 (absArgs as143q d).2 (outM rs143q up143q) = s143q k d := by
  obtain ⟨_, _, _, _, _, _, _⟩ := d
  kernel_rfl
theorem F143q : FnOK Proofs.Try.prog R143q := fn_b (E := E143q) (A := A143q) (na := 0) (fn := Proofs.Try.f76) (S := s143q) (unpack := up143q) B143q (by kernel_rfl) (loopsOK_none (by kernel_rfl)) (by kernel_rfl) (by kernel_rfl) (fun _ => rfl) ev143q

/-! ### giro/hour.ends -/
noncomputable def E144q : Env := ⟨Proofs.Try.prog, fun _ => false, sumsOf [R134q]⟩
def I144_0q : Spec := ⟨[(1, .c (.lit (.ptr 1001000 0))), (2, .c (.lit (.ptr 1001001 0))), (4, .c (.lit (.osl 1001002 none))), (10, .c (.dat true y9q)), (11, .c (.int .i64)), (12, .c (.int .i64))], [.box true [.int .i64, .dat true y5q, .dat true (.sl (.int .i64)), .dat true (.int .i64), .dat true (.sl (.int .i64)), .dat true (.int .i64), .dat true (.sl (.int .i64)), .dat true y9q, .dat true (.int .i64), .int .i64, .bool], .box true [.int .i64, .lit .nsl, .lit .nsl, .lit .nsl, .lit .nsl, .lit .nsl, .lit .nsl, .lit .nsl, .lit .nsl, .int .i64, .bool], .arr true y10q], [(4, none, y10q, false)]⟩
def X0_144_0q : Spec := ⟨[(1, .c (.lit (.ptr 1001000 0))), (2, .c (.lit (.ptr 1001001 0))), (4, .c (.lit (.osl 1001002 none)))], [.box true [.int .i64, .dat true y5q, .dat true (.sl (.int .i64)), .dat true (.int .i64), .dat true (.sl (.int .i64)), .dat true (.int .i64), .dat true (.sl (.int .i64)), .dat true y9q, .dat true (.int .i64), .int .i64, .bool], .box true [.int .i64, .lit .nsl, .lit .nsl, .lit .nsl, .lit .nsl, .lit .nsl, .lit .nsl, .lit .nsl, .lit .nsl, .int .i64, .bool], .arr true y10q], []⟩
def O144_0q : List (Ex × Spec) := [(.exit 0, X0_144_0q)]
def c144_0q (f : hour_ends_L0T) (d : I144_0q.den) : Option hour_ends_L0X := f d.1.2.2.2.1.1 d.1.2.2.2.2.1.1 d.1.2.2.2.2.2.1.1 d.2.1.1 d.2.1.2.1 d.2.1.2.2.1 d.2.1.2.2.2.1 d.2.1.2.2.2.2.1 d.2.1.2.2.2.2.2.1 d.2.1.2.2.2.2.2.2.1 d.2.1.2.2.2.2.2.2.2.1 d.2.1.2.2.2.2.2.2.2.2.1 d.2.1.2.2.2.2.2.2.2.2.2.1 d.2.1.2.2.2.2.2.2.2.2.2.2.1 d.2.2.1.1 d.2.2.1.2.1 d.2.2.1.2.2.1 d.2.2.2.1
def T144_0q : OutD O144_0q → hour_ends_L0X := fun d => (d.2.1.1, d.2.1.2.1, d.2.1.2.2.1, d.2.1.2.2.2.1, d.2.1.2.2.2.2.1, d.2.1.2.2.2.2.2.1, d.2.1.2.2.2.2.2.2.1, d.2.1.2.2.2.2.2.2.2.1, d.2.1.2.2.2.2.2.2.2.2.1, d.2.1.2.2.2.2.2.2.2.2.2.1, d.2.1.2.2.2.2.2.2.2.2.2.2.1, d.2.2.1.1, d.2.2.1.2.1, d.2.2.1.2.2.1, d.2.2.2.1)
def e144_0q (base : Nat) (x : hour_ends_L0X) (R : Type) (K : Ex → St → Option R) : Option R := K (.exit 0) (stOf base X0_144_0q (((), (), (), ()), ((x.1, x.2.1, x.2.2.1, x.2.2.2.1, x.2.2.2.2.1, x.2.2.2.2.2.1, x.2.2.2.2.2.2.1, x.2.2.2.2.2.2.2.1, x.2.2.2.2.2.2.2.2.1, x.2.2.2.2.2.2.2.2.2.1, x.2.2.2.2.2.2.2.2.2.2.1, ()), (x.2.2.2.2.2.2.2.2.2.2.2.1, x.2.2.2.2.2.2.2.2.2.2.2.2.1, x.2.2.2.2.2.2.2.2.2.2.2.2.2.1, ()), x.2.2.2.2.2.2.2.2.2.2.2.2.2.2, ())))
def L144_0q : LoopSum := ⟨I144_0q, O144_0q, hour_ends_L0X, fun k d => c144_0q (hour_ends_L0 k k) d, e144_0q⟩
def I144_1q : Spec := ⟨[(1, .c (.lit (.ptr 1001000 0))), (2, .c (.lit (.ptr 1001001 0))), (4, .c (.lit (.osl 1001002 none))), (28, .c (.dat true y5q)), (29, .c (.int .i64)), (30, .c (.int .i64))], [.box true [.int .i64, .dat true y5q, .dat true (.sl (.int .i64)), .dat true (.int .i64), .dat true (.sl (.int .i64)), .dat true (.int .i64), .dat true (.sl (.int .i64)), .dat true y9q, .dat true (.int .i64), .int .i64, .bool], .box true [.int .i64, .lit .nsl, .lit .nsl, .lit .nsl, .lit .nsl, .lit .nsl, .lit .nsl, .lit .nsl, .lit .nsl, .int .i64, .bool], .arr true y10q], []⟩
def X0_144_1q : Spec := ⟨[(1, .c (.lit (.ptr 1001000 0))), (2, .c (.lit (.ptr 1001001 0))), (4, .c (.lit (.osl 1001002 none)))], [.box true [.int .i64, .dat true y5q, .dat true (.sl (.int .i64)), .dat true (.int .i64), .dat true (.sl (.int .i64)), .dat true (.int .i64), .dat true (.sl (.int .i64)), .dat true y9q, .dat true (.int .i64), .int .i64, .bool], .box true [.int .i64, .lit .nsl, .lit .nsl, .lit .nsl, .lit .nsl, .lit .nsl, .lit .nsl, .lit .nsl, .lit .nsl, .int .i64, .bool], .arr true y10q], []⟩
def O144_1q : List (Ex × Spec) := [(.exit 2, X0_144_1q)]
def c144_1q (f : hour_ends_L1T) (d : I144_1q.den) : Option hour_ends_L1X := f d.1.2.2.2.1.1 d.1.2.2.2.2.1.1 d.1.2.2.2.2.2.1.1 d.2.1.1 d.2.1.2.1 d.2.1.2.2.1 d.2.1.2.2.2.1 d.2.1.2.2.2.2.1 d.2.1.2.2.2.2.2.1 d.2.1.2.2.2.2.2.2.1 d.2.1.2.2.2.2.2.2.2.1 d.2.1.2.2.2.2.2.2.2.2.1 d.2.1.2.2.2.2.2.2.2.2.2.1 d.2.1.2.2.2.2.2.2.2.2.2.2.1 d.2.2.1.1 d.2.2.1.2.1 d.2.2.1.2.2.1 d.2.2.2.1
def T144_1q : OutD O144_1q → hour_ends_L1X := fun d => (d.2.1.1, d.2.1.2.1, d.2.1.2.2.1, d.2.1.2.2.2.1, d.2.1.2.2.2.2.1, d.2.1.2.2.2.2.2.1, d.2.1.2.2.2.2.2.2.1, d.2.1.2.2.2.2.2.2.2.1, d.2.1.2.2.2.2.2.2.2.2.1, d.2.1.2.2.2.2.2.2.2.2.2.1, d.2.1.2.2.2.2.2.2.2.2.2.2.1, d.2.2.1.1, d.2.2.1.2.1, d.2.2.1.2.2.1, d.2.2.2.1)
def e144_1q (base : Nat) (x : hour_ends_L1X) (R : Type) (K : Ex → St → Option R) : Option R := K (.exit 2) (stOf base X0_144_1q (((), (), (), ()), ((x.1, x.2.1, x.2.2.1, x.2.2.2.1, x.2.2.2.2.1, x.2.2.2.2.2.1, x.2.2.2.2.2.2.1, x.2.2.2.2.2.2.2.1, x.2.2.2.2.2.2.2.2.1, x.2.2.2.2.2.2.2.2.2.1, x.2.2.2.2.2.2.2.2.2.2.1, ()), (x.2.2.2.2.2.2.2.2.2.2.2.1, x.2.2.2.2.2.2.2.2.2.2.2.2.1, x.2.2.2.2.2.2.2.2.2.2.2.2.2.1, ()), x.2.2.2.2.2.2.2.2.2.2.2.2.2.2, ())))
def L144_1q : LoopSum := ⟨I144_1q, O144_1q, hour_ends_L1X, fun k d => c144_1q (hour_ends_L1 k k) d, e144_1q⟩
def A144q : Notes := ⟨[], [(3, L144_0q), (8, L144_1q)]⟩
theorem B144q : EnvB E144q := env_n mixed_orders ⟨F134q, trivial⟩
theorem st144_0q (k : Nat) (rec : hour_ends_L0T) (d : I144_0q.den) : c144_0q (hour_ends_L0b k rec) d = evC E144q A144q k 1000 0 48 (loopAt (bodyOf Proofs.Try.f77) 0) (stOf (1000 + loopBase) I144_0q d) (roundK 1000 I144_0q O144_0q T144_0q (c144_0q rec)) := by
  obtain ⟨⟨_, _, _, ⟨_, _⟩, ⟨_, _⟩, ⟨_, _⟩, _⟩, ⟨⟨_, _, _, _, _, _, _, _, _, _, _, _⟩, ⟨_, _, _, _⟩, _, _⟩⟩ := d
  kernel_rfl
theorem lk144_0q : LoopOK Proofs.Try.prog 1000 0 48 (loopAt (bodyOf Proofs.Try.f77) 0) L144_0q :=
  loop_b (A := A144q) (inS := I144_0q) (outs := O144_0q) B144q (loopsOK_none (by kernel_rfl)) T144_0q e144_0q (fun _ _ _ => rfl) (fun k n d => c144_0q (hour_ends_L0 k n) d) (fun _ _ => rfl) (fun k n d => st144_0q k (hour_ends_L0 k n) d)
theorem st144_1q (k : Nat) (rec : hour_ends_L1T) (d : I144_1q.den) : c144_1q (hour_ends_L1b k rec) d = evC E144q A144q k 1000 0 48 (loopAt (bodyOf Proofs.Try.f77) 1) (stOf (1000 + loopBase) I144_1q d) (roundK 1000 I144_1q O144_1q T144_1q (c144_1q rec)) := by
  obtain ⟨⟨_, _, _, ⟨_, _⟩, ⟨_, _⟩, ⟨_, _⟩, _⟩, ⟨⟨_, _, _, _, _, _, _, _, _, _, _, _⟩, ⟨_, _, _, _⟩, _, _⟩⟩ := d
  kernel_rfl
theorem lk144_1q : LoopOK Proofs.Try.prog 1000 0 48 (loopAt (bodyOf Proofs.Try.f77) 1) L144_1q :=
  loop_b (A := A144q) (inS := I144_1q) (outs := O144_1q) B144q (loopsOK_none (by kernel_rfl)) T144_1q e144_1q (fun _ _ _ => rfl) (fun k n d => c144_1q (hour_ends_L1 k n) d) (fun _ _ => rfl) (fun k n d => st144_1q k (hour_ends_L1 k n) d)
def as144q : List AS := [.agg [.int .i64, .dat true y5q, .dat true (.sl (.int .i64)), .dat true (.int .i64), .dat true (.sl (.int .i64)), .dat true (.int .i64), .dat true (.sl (.int .i64)), .dat true y9q, .dat true (.int .i64), .int .i64, .bool]]
def rs144q : RS := .tup [(true, [.int .i64, .fro y5q, .fro (.sl (.int .i64)), .fro (.int .i64), .fro (.sl (.int .i64)), .fro (.int .i64), .fro (.sl (.int .i64)), .own y9q, .fro (.int .i64), .int .i64, .bool]), (false, [.own y10q])]
def pk144q : Int × (List K3q) × (List (List Int)) × (List Int) × (List (List Int)) × (List Int) × (List (List Int)) × (List K2q) × (List Int) × Int × Bool × (List K1q) → RL rs144q.cells := fun x => (x.1, x.2.1, x.2.2.1, x.2.2.2.1, x.2.2.2.2.1, x.2.2.2.2.2.1, x.2.2.2.2.2.2.1, x.2.2.2.2.2.2.2.1, x.2.2.2.2.2.2.2.2.1, x.2.2.2.2.2.2.2.2.2.1, x.2.2.2.2.2.2.2.2.2.2.1, x.2.2.2.2.2.2.2.2.2.2.2, ())
def up144q : RL rs144q.cells → Int × (List K3q) × (List (List Int)) × (List Int) × (List (List Int)) × (List Int) × (List (List Int)) × (List K2q) × (List Int) × Int × Bool × (List K1q) := fun d => (d.1, d.2.1, d.2.2.1, d.2.2.2.1, d.2.2.2.2.1, d.2.2.2.2.2.1, d.2.2.2.2.2.2.1, d.2.2.2.2.2.2.2.1, d.2.2.2.2.2.2.2.2.1, d.2.2.2.2.2.2.2.2.2.1, d.2.2.2.2.2.2.2.2.2.2.1, d.2.2.2.2.2.2.2.2.2.2.2.1)
def s144q (k : Nat) (d : AD as144q) := hour_ends k d.1 d.2.1 d.2.2.1 d.2.2.2.1 d.2.2.2.2.1 d.2.2.2.2.2.1 d.2.2.2.2.2.2.1 d.2.2.2.2.2.2.2.1 d.2.2.2.2.2.2.2.2.1 d.2.2.2.2.2.2.2.2.2.1 d.2.2.2.2.2.2.2.2.2.2.1
def R144q : Nat × Entry := (77, fun k nm args h => entry as144q rs144q (s144q k) pk144q nm args h)
theorem ev144q (k : Nat) (d : AD as144q) : evF E144q A144q k 1000 0 Proofs.Try.f77 (absArgs as144q d).1 (absArgs as144q d).2 (outM rs144q up144q) = s144q k d := by
  obtain ⟨_, _, _, _, _, _, _, _, _, _, _, _⟩ := d
  kernel_rfl
theorem F144q : FnOK Proofs.Try.prog R144q := fn_b (E := E144q) (A := A144q) (na := 0) (fn := Proofs.Try.f77) (S := s144q) (unpack := up144q) B144q (by kernel_rfl) (loopsOK_of (n := 2) (by kernel_rfl) fun i hi => match i, hi with | 0, _ => ⟨L144_0q, by kernel_rfl, lk144_0q⟩ | 1, _ => ⟨L144_1q, by kernel_rfl, lk144_1q⟩ | i + 2, hi => absurd hi (by omega)) (by kernel_rfl) (by kernel_rfl) (fun _ => rfl) ev144q

/-! ### giro/pay.Late -/
noncomputable def E145q : Env := ⟨Proofs.Try.prog, fun _ => false, sumsOf []⟩
def A145q : Notes := ⟨[], []⟩
theorem B145q : EnvB E145q := env_n mixed_orders trivial
def as145q : List AS := [.agg [.int .i64, .int .i64, .int .i64, .int .i64, .int .i64, .int .i64, .int .i64], .c (.int .i64)]
def rs145q : RS := .c (.bool)
def pk145q : Bool → RL rs145q.cells := fun x => (x, ())
def up145q : RL rs145q.cells → Bool := fun d => d.1
def s145q (k : Nat) (d : AD as145q) := pay_Late k d.1 d.2.1 d.2.2.1 d.2.2.2.1 d.2.2.2.2.1 d.2.2.2.2.2.1 d.2.2.2.2.2.2.1 d.2.2.2.2.2.2.2.1
def R145q : Nat × Entry := (78, fun k nm args h => entry as145q rs145q (s145q k) pk145q nm args h)
theorem ev145q (k : Nat) (d : AD as145q) : evF E145q A145q k 1000 0 Proofs.Try.f78 (absArgs as145q d).1 (absArgs as145q d).2 (outM rs145q up145q) = s145q k d := by
  obtain ⟨_, _, _, _, _, _, _, _, _⟩ := d
  kernel_rfl
theorem F145q : FnOK Proofs.Try.prog R145q := fn_b (E := E145q) (A := A145q) (na := 0) (fn := Proofs.Try.f78) (S := s145q) (unpack := up145q) B145q (by kernel_rfl) (loopsOK_none (by kernel_rfl)) (by kernel_rfl) (by kernel_rfl) (fun _ => rfl) ev145q

/-! ### giro/day.Solves -/
noncomputable def E146q : Env := ⟨Proofs.Try.prog, fun _ => false, sumsOf []⟩
def A146q : Notes := ⟨[], []⟩
theorem B146q : EnvB E146q := env_n mixed_orders trivial
def as146q : List AS := [.agg [.int .i64, .dat false y0q, .int .i64, .int .i64, .int .i64], .c (.int .i64)]
def rs146q : RS := .c (.bool)
def pk146q : Bool → RL rs146q.cells := fun x => (x, ())
def up146q : RL rs146q.cells → Bool := fun d => d.1
def s146q (k : Nat) (d : AD as146q) := day_Solves k d.1 d.2.1 d.2.2.1 d.2.2.2.1 d.2.2.2.2.1 d.2.2.2.2.2.1
def R146q : Nat × Entry := (80, fun k nm args h => entry as146q rs146q (s146q k) pk146q nm args h)
theorem ev146q (k : Nat) (d : AD as146q) : evF E146q A146q k 1000 0 Proofs.Try.f80 (absArgs as146q d).1 (absArgs as146q d).2 (outM rs146q up146q) = s146q k d := by
  obtain ⟨_, _, _, _, _, _, _⟩ := d
  kernel_rfl
theorem F146q : FnOK Proofs.Try.prog R146q := fn_b (E := E146q) (A := A146q) (na := 0) (fn := Proofs.Try.f80) (S := s146q) (unpack := up146q) B146q (by kernel_rfl) (loopsOK_none (by kernel_rfl)) (by kernel_rfl) (by kernel_rfl) (fun _ => rfl) ev146q

/-! ### giro/hour.Settle -/
noncomputable def E147q : Env := ⟨Proofs.Try.prog, fun _ => false, sumsOf [R125q, R135q]⟩
def A147q : Notes := ⟨[], []⟩
theorem B147q : EnvB E147q := env_n mixed_orders ⟨F125q, F135q, trivial⟩
def as147q : List AS := [.agg [.int .i64, .dat true y5q, .dat true (.sl (.int .i64)), .dat true (.int .i64), .dat true (.sl (.int .i64)), .dat true (.int .i64), .dat true (.sl (.int .i64)), .dat true y9q, .dat true (.int .i64), .int .i64, .bool], .c (.bool)]
def rs147q : RS := .tup [(true, [.int .i64, .fro y5q, .fro (.sl (.int .i64)), .fro (.int .i64), .fro (.sl (.int .i64)), .fro (.int .i64), .fro (.sl (.int .i64)), .fro y9q, .fro (.int .i64), .int .i64, .bool]), (false, [.own y10q])]
def pk147q : Int × (List K3q) × (List (List Int)) × (List Int) × (List (List Int)) × (List Int) × (List (List Int)) × (List K2q) × (List Int) × Int × Bool × (List K1q) → RL rs147q.cells := fun x => (x.1, x.2.1, x.2.2.1, x.2.2.2.1, x.2.2.2.2.1, x.2.2.2.2.2.1, x.2.2.2.2.2.2.1, x.2.2.2.2.2.2.2.1, x.2.2.2.2.2.2.2.2.1, x.2.2.2.2.2.2.2.2.2.1, x.2.2.2.2.2.2.2.2.2.2.1, x.2.2.2.2.2.2.2.2.2.2.2, ())
def up147q : RL rs147q.cells → Int × (List K3q) × (List (List Int)) × (List Int) × (List (List Int)) × (List Int) × (List (List Int)) × (List K2q) × (List Int) × Int × Bool × (List K1q) := fun d => (d.1, d.2.1, d.2.2.1, d.2.2.2.1, d.2.2.2.2.1, d.2.2.2.2.2.1, d.2.2.2.2.2.2.1, d.2.2.2.2.2.2.2.1, d.2.2.2.2.2.2.2.2.1, d.2.2.2.2.2.2.2.2.2.1, d.2.2.2.2.2.2.2.2.2.2.1, d.2.2.2.2.2.2.2.2.2.2.2.1)
def s147q (k : Nat) (d : AD as147q) := hour_Settle k d.1 d.2.1 d.2.2.1 d.2.2.2.1 d.2.2.2.2.1 d.2.2.2.2.2.1 d.2.2.2.2.2.2.1 d.2.2.2.2.2.2.2.1 d.2.2.2.2.2.2.2.2.1 d.2.2.2.2.2.2.2.2.2.1 d.2.2.2.2.2.2.2.2.2.2.1 d.2.2.2.2.2.2.2.2.2.2.2.1
def R147q : Nat × Entry := (79, fun k nm args h => entry as147q rs147q (s147q k) pk147q nm args h)
theorem ev147q (k : Nat) (d : AD as147q) : evF E147q A147q k 1000 0 Proofs.Try.f79 (absArgs as147q d).1 (absArgs as147q d).2 (outM rs147q up147q) = s147q k d := by
  obtain ⟨_, _, _, _, _, _, _, _, _, _, _, _, _⟩ := d
  kernel_rfl
theorem F147q : FnOK Proofs.Try.prog R147q := fn_b (E := E147q) (A := A147q) (na := 0) (fn := Proofs.Try.f79) (S := s147q) (unpack := up147q) B147q (by kernel_rfl) (loopsOK_none (by kernel_rfl)) (by kernel_rfl) (by kernel_rfl) (fun _ => rfl) ev147q

/-! ### giro/hour.Tick -/
noncomputable def E148q : Env := ⟨Proofs.Try.prog, fun _ => false, sumsOf [R143q, R144q, R145q, R134q, R146q, R147q]⟩
def I148_0q : Spec := ⟨[(2, .c (.lit (.ptr 1001000 0))), (3, .c (.lit (.ptr 1001001 0))), (4, .c (.lit (.ptr 1001002 0))), (6, .c (.lit (.osl 1001003 none))), (7, .c (.lit (.osl 1001004 none))), (27, .c (.dat true y9q)), (28, .c (.int .i64)), (29, .c (.int .i64))], [.box true [.int .i64, .dat false y0q, .int .i64, .int .i64, .int .i64], .box true [.int .i64, .dat true y5q, .dat true (.sl (.int .i64)), .dat true (.int .i64), .dat true (.sl (.int .i64)), .dat true (.int .i64), .dat true (.sl (.int .i64)), .dat true y9q, .dat true (.int .i64), .int .i64, .bool], .box true [.int .i64, .lit .nsl, .lit .nsl, .lit .nsl, .lit .nsl, .lit .nsl, .lit .nsl, .lit .nsl, .lit .nsl, .int .i64, .bool], .arr true y10q, .arr true y9q], [(6, none, y10q, false), (7, none, y9q, false)]⟩
def X0_148_0q : Spec := ⟨[(2, .c (.lit (.ptr 1001000 0))), (3, .c (.lit (.ptr 1001001 0))), (4, .c (.lit (.ptr 1001002 0))), (6, .c (.lit (.osl 1001003 none))), (7, .c (.lit (.osl 1001004 none)))], [.box true [.int .i64, .dat false y0q, .int .i64, .int .i64, .int .i64], .box true [.int .i64, .dat true y5q, .dat true (.sl (.int .i64)), .dat true (.int .i64), .dat true (.sl (.int .i64)), .dat true (.int .i64), .dat true (.sl (.int .i64)), .dat true y9q, .dat true (.int .i64), .int .i64, .bool], .box true [.int .i64, .lit .nsl, .lit .nsl, .lit .nsl, .lit .nsl, .lit .nsl, .lit .nsl, .lit .nsl, .lit .nsl, .int .i64, .bool], .arr true y10q, .arr true y9q], []⟩
def O148_0q : List (Ex × Spec) := [(.exit 0, X0_148_0q)]
def c148_0q (f : hour_Tick_L0T) (d : I148_0q.den) : Option hour_Tick_L0X := f d.1.2.2.2.2.2.1.1 d.1.2.2.2.2.2.2.1.1 d.1.2.2.2.2.2.2.2.1.1 d.2.1.1 d.2.1.2.1 d.2.1.2.2.1 d.2.1.2.2.2.1 d.2.1.2.2.2.2.1 d.2.2.1.1 d.2.2.1.2.1 d.2.2.1.2.2.1 d.2.2.1.2.2.2.1 d.2.2.1.2.2.2.2.1 d.2.2.1.2.2.2.2.2.1 d.2.2.1.2.2.2.2.2.2.1 d.2.2.1.2.2.2.2.2.2.2.1 d.2.2.1.2.2.2.2.2.2.2.2.1 d.2.2.1.2.2.2.2.2.2.2.2.2.1 d.2.2.1.2.2.2.2.2.2.2.2.2.2.1 d.2.2.2.1.1 d.2.2.2.1.2.1 d.2.2.2.1.2.2.1 d.2.2.2.2.1 d.2.2.2.2.2.1
def T148_0q : OutD O148_0q → hour_Tick_L0X := fun d => (d.2.1.1, d.2.1.2.1, d.2.1.2.2.1, d.2.1.2.2.2.1, d.2.1.2.2.2.2.1, d.2.2.1.1, d.2.2.1.2.1, d.2.2.1.2.2.1, d.2.2.1.2.2.2.1, d.2.2.1.2.2.2.2.1, d.2.2.1.2.2.2.2.2.1, d.2.2.1.2.2.2.2.2.2.1, d.2.2.1.2.2.2.2.2.2.2.1, d.2.2.1.2.2.2.2.2.2.2.2.1, d.2.2.1.2.2.2.2.2.2.2.2.2.1, d.2.2.1.2.2.2.2.2.2.2.2.2.2.1, d.2.2.2.1.1, d.2.2.2.1.2.1, d.2.2.2.1.2.2.1, d.2.2.2.2.1, d.2.2.2.2.2.1)
def e148_0q (base : Nat) (x : hour_Tick_L0X) (R : Type) (K : Ex → St → Option R) : Option R := K (.exit 0) (stOf base X0_148_0q (((), (), (), (), (), ()), ((x.1, x.2.1, x.2.2.1, x.2.2.2.1, x.2.2.2.2.1, ()), (x.2.2.2.2.2.1, x.2.2.2.2.2.2.1, x.2.2.2.2.2.2.2.1, x.2.2.2.2.2.2.2.2.1, x.2.2.2.2.2.2.2.2.2.1, x.2.2.2.2.2.2.2.2.2.2.1, x.2.2.2.2.2.2.2.2.2.2.2.1, x.2.2.2.2.2.2.2.2.2.2.2.2.1, x.2.2.2.2.2.2.2.2.2.2.2.2.2.1, x.2.2.2.2.2.2.2.2.2.2.2.2.2.2.1, x.2.2.2.2.2.2.2.2.2.2.2.2.2.2.2.1, ()), (x.2.2.2.2.2.2.2.2.2.2.2.2.2.2.2.2.1, x.2.2.2.2.2.2.2.2.2.2.2.2.2.2.2.2.2.1, x.2.2.2.2.2.2.2.2.2.2.2.2.2.2.2.2.2.2.1, ()), x.2.2.2.2.2.2.2.2.2.2.2.2.2.2.2.2.2.2.2.1, x.2.2.2.2.2.2.2.2.2.2.2.2.2.2.2.2.2.2.2.2, ())))
def L148_0q : LoopSum := ⟨I148_0q, O148_0q, hour_Tick_L0X, fun k d => c148_0q (hour_Tick_L0 k k) d, e148_0q⟩
def A148q : Notes := ⟨[], [(9, L148_0q)]⟩
theorem B148q : EnvB E148q := env_n mixed_orders ⟨F143q, F144q, F145q, F134q, F146q, F147q, trivial⟩
theorem st148_0q (k : Nat) (rec : hour_Tick_L0T) (d : I148_0q.den) : c148_0q (hour_Tick_L0b k rec) d = evC E148q A148q k 1000 0 66 (loopAt (bodyOf Proofs.Try.f45) 0) (stOf (1000 + loopBase) I148_0q d) (roundK 1000 I148_0q O148_0q T148_0q (c148_0q rec)) := by
  obtain ⟨⟨_, _, _, _, _, ⟨_, _⟩, ⟨_, _⟩, ⟨_, _⟩, _⟩, ⟨⟨_, _, _, _, _, _⟩, ⟨_, _, _, _, _, _, _, _, _, _, _, _⟩, ⟨_, _, _, _⟩, _, _, _⟩⟩ := d
  kernel_rfl
theorem lk148_0q : LoopOK Proofs.Try.prog 1000 0 66 (loopAt (bodyOf Proofs.Try.f45) 0) L148_0q :=
  loop_b (A := A148q) (inS := I148_0q) (outs := O148_0q) B148q (loopsOK_none (by kernel_rfl)) T148_0q e148_0q (fun _ _ _ => rfl) (fun k n d => c148_0q (hour_Tick_L0 k n) d) (fun _ _ => rfl) (fun k n d => st148_0q k (hour_Tick_L0 k n) d)
def as148q : List AS := [.agg [.int .i64, .dat false y0q, .int .i64, .int .i64, .int .i64], .agg [.int .i64, .dat true y5q, .dat true (.sl (.int .i64)), .dat true (.int .i64), .dat true (.sl (.int .i64)), .dat true (.int .i64), .dat true (.sl (.int .i64)), .dat true y9q, .dat true (.int .i64), .int .i64, .bool]]
def rs148q : RS := .tup [(true, [.int .i64, .fro y5q, .fro (.sl (.int .i64)), .fro (.int .i64), .fro (.sl (.int .i64)), .fro (.int .i64), .fro (.sl (.int .i64)), .fro y9q, .fro (.int .i64), .int .i64, .bool]), (false, [.own y10q])]
def pk148q : Int × (List K3q) × (List (List Int)) × (List Int) × (List (List Int)) × (List Int) × (List (List Int)) × (List K2q) × (List Int) × Int × Bool × (List K1q) → RL rs148q.cells := fun x => (x.1, x.2.1, x.2.2.1, x.2.2.2.1, x.2.2.2.2.1, x.2.2.2.2.2.1, x.2.2.2.2.2.2.1, x.2.2.2.2.2.2.2.1, x.2.2.2.2.2.2.2.2.1, x.2.2.2.2.2.2.2.2.2.1, x.2.2.2.2.2.2.2.2.2.2.1, x.2.2.2.2.2.2.2.2.2.2.2, ())
def up148q : RL rs148q.cells → Int × (List K3q) × (List (List Int)) × (List Int) × (List (List Int)) × (List Int) × (List (List Int)) × (List K2q) × (List Int) × Int × Bool × (List K1q) := fun d => (d.1, d.2.1, d.2.2.1, d.2.2.2.1, d.2.2.2.2.1, d.2.2.2.2.2.1, d.2.2.2.2.2.2.1, d.2.2.2.2.2.2.2.1, d.2.2.2.2.2.2.2.2.1, d.2.2.2.2.2.2.2.2.2.1, d.2.2.2.2.2.2.2.2.2.2.1, d.2.2.2.2.2.2.2.2.2.2.2.1)
def s148q (k : Nat) (d : AD as148q) := hour_Tick k d.1 d.2.1 d.2.2.1 d.2.2.2.1 d.2.2.2.2.1 d.2.2.2.2.2.1 d.2.2.2.2.2.2.1 d.2.2.2.2.2.2.2.1 d.2.2.2.2.2.2.2.2.1 d.2.2.2.2.2.2.2.2.2.1 d.2.2.2.2.2.2.2.2.2.2.1 d.2.2.2.2.2.2.2.2.2.2.2.1 d.2.2.2.2.2.2.2.2.2.2.2.2.1 d.2.2.2.2.2.2.2.2.2.2.2.2.2.1 d.2.2.2.2.2.2.2.2.2.2.2.2.2.2.1 d.2.2.2.2.2.2.2.2.2.2.2.2.2.2.2.1
def R148q : Nat × Entry := (45, fun k nm args h => entry as148q rs148q (s148q k) pk148q nm args h)
theorem ev148q (k : Nat) (d : AD as148q) : evF E148q A148q k 1000 0 Proofs.Try.f45 (absArgs as148q d).1 (absArgs as148q d).2 (outM rs148q up148q) = s148q k d := by
  obtain ⟨_, _, _, _, _, _, _, _, _, _, _, _, _, _, _, _, _⟩ := d
  kernel_rfl
theorem F148q : FnOK Proofs.Try.prog R148q := fn_b (E := E148q) (A := A148q) (na := 0) (fn := Proofs.Try.f45) (S := s148q) (unpack := up148q) B148q (by kernel_rfl) (loopsOK_of (n := 1) (by kernel_rfl) fun i hi => match i, hi with | 0, _ => ⟨L148_0q, by kernel_rfl, lk148_0q⟩ | i + 1, hi => absurd hi (by omega)) (by kernel_rfl) (by kernel_rfl) (fun _ => rfl) ev148q

/-! ### giro/girolaw22.known -/
noncomputable def E149q : Env := ⟨Proofs.Try.prog, fun t => [80].any (Nat.beq t), sumsOf [R139q, R142q, R148q, R136q]⟩
def A149q : Notes := ⟨[], []⟩
theorem B149q : EnvB E149q := env_b (eqOK_flat (fun t h => eqT_mem (p := fun t => Proofs.Try.prog.keyTypeAt 8 t && !Proofs.Try.prog.eqGuardType Proofs.Try.prog.depth t) (l := [80]) (List.forall_mem_cons.2 ⟨by kernel_rfl, List.forall_mem_nil _⟩) t h)) mixed_orders ⟨F139q, F142q, F148q, F136q, trivial⟩
def as149q : List AS := []
def rs149q : RS := .c (.bool)
def pk149q : Bool → RL rs149q.cells := fun x => (x, ())
def up149q : RL rs149q.cells → Bool := fun d => d.1
def s149q (k : Nat) (d : AD as149q) := girolaw22_known k
def R149q : Nat × Entry := (42, fun k nm args h => entry as149q rs149q (s149q k) pk149q nm args h)
theorem ev149q (k : Nat) (d : AD as149q) : evF E149q A149q k 1000 0 Proofs.Try.f42 (absArgs as149q d).1 (absArgs as149q d).2 (outM rs149q up149q) = s149q k d := by
  kernel_rfl
theorem F149q : FnOK Proofs.Try.prog R149q := fn_b (E := E149q) (A := A149q) (na := 0) (fn := Proofs.Try.f42) (S := s149q) (unpack := up149q) B149q (by kernel_rfl) (loopsOK_none (by kernel_rfl)) (by kernel_rfl) (by kernel_rfl) (fun _ => rfl) ev149q

/-! ### giro/giroref11.Late -/
noncomputable def E151q : Env := ⟨Proofs.Try.prog, fun _ => false, sumsOf []⟩
def A151q : Notes := ⟨[], []⟩
theorem B151q : EnvB E151q := env_n mixed_orders trivial
def as151q : List AS := [.agg [.int .i64, .int .i64, .int .i64, .int .i64, .int .i64, .int .i64, .int .i64], .c (.int .i64)]
def rs151q : RS := .c (.bool)
def pk151q : Bool → RL rs151q.cells := fun x => (x, ())
def up151q : RL rs151q.cells → Bool := fun d => d.1
def s151q (k : Nat) (d : AD as151q) := giroref11_Late k d.1 d.2.1 d.2.2.1 d.2.2.2.1 d.2.2.2.2.1 d.2.2.2.2.2.1 d.2.2.2.2.2.2.1 d.2.2.2.2.2.2.2.1
def R151q : Nat × Entry := (46, fun k nm args h => entry as151q rs151q (s151q k) pk151q nm args h)
theorem ev151q (k : Nat) (d : AD as151q) : evF E151q A151q k 1000 0 Proofs.Try.f46 (absArgs as151q d).1 (absArgs as151q d).2 (outM rs151q up151q) = s151q k d := by
  obtain ⟨_, _, _, _, _, _, _, _, _⟩ := d
  kernel_rfl
theorem F151q : FnOK Proofs.Try.prog R151q := fn_b (E := E151q) (A := A151q) (na := 0) (fn := Proofs.Try.f46) (S := s151q) (unpack := up151q) B151q (by kernel_rfl) (loopsOK_none (by kernel_rfl)) (by kernel_rfl) (by kernel_rfl) (fun _ => rfl) ev151q

end Go.Ab.Gi
