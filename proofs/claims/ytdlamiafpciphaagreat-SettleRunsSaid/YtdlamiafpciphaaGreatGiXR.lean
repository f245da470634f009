/- The shallow functions are what the program does, printed (abprint.py). -/
import Derived.Test.YtdlamiafpciphaaGreatGiXRa
set_option linter.unusedVariables false
set_option maxRecDepth 100000
namespace Go.Ab.Gi

/-! ### giro/giroref15.short -/
noncomputable def E104q : Env := ⟨Proofs.Tryz.prog, fun _ => false, sumsOf [R93q, R103q, R96q, R95q]⟩
def I104_0q : Spec := ⟨[(1, .c (.dat false y7q)), (2, .c (.int .i64)), (3, .c (.lit (.ptr 1001000 0))), (7, .c (.int .i64)), (8, .c (.int .i64)), (9, .c (.int .i64)), (10, .c (.int .i64)), (11, .c (.int .i64))], [.box true [.dat false y3q, .dat false (.sl (.int .i64)), .dat false (.int .i64), .dat false (.sl (.int .i64))]], []⟩
def X0_104_0q : Spec := ⟨[(2, .c (.int .i64)), (3, .c (.lit (.ptr 1001000 0))), (7, .c (.int .i64)), (8, .c (.int .i64)), (9, .c (.int .i64)), (10, .c (.int .i64))], [.box true [.dat false y3q, .dat false (.sl (.int .i64)), .dat false (.int .i64), .dat false (.sl (.int .i64))]], []⟩
def X1_104_0q : Spec := ⟨[(6, .c (.bool))], [], []⟩
def O104_0q : List (Ex × Spec) := [(.exit 0, X0_104_0q), (.ret, X1_104_0q)]
def c104_0q (f : giroref15_short_L0T) (d : I104_0q.den) : Option giroref15_short_L0X := f d.1.1.1 d.1.2.1.1 d.1.2.2.2.1.1 d.1.2.2.2.2.1.1 d.1.2.2.2.2.2.1.1 d.1.2.2.2.2.2.2.1.1 d.1.2.2.2.2.2.2.2.1.1 d.2.1.1 d.2.1.2.1 d.2.1.2.2.1 d.2.1.2.2.2.1
def T104_0q : OutD O104_0q → giroref15_short_L0X
 | .inl d => .inl (d.1.1.1, d.1.2.2.1.1, d.1.2.2.2.1.1, d.1.2.2.2.2.1.1, d.1.2.2.2.2.2.1.1, d.2.1.1, d.2.1.2.1, d.2.1.2.2.1, d.2.1.2.2.2.1)
 | .inr d => .inr d.1.1.1
def e104_0q (base : Nat) (x : giroref15_short_L0X) (R : Type) (K : Ex → St → Option R) : Option R := match x with
 | .inl x => K (.exit 0) (stOf base X0_104_0q (((x.1, ()), (), (x.2.1, ()), (x.2.2.1, ()), (x.2.2.2.1, ()), (x.2.2.2.2.1, ()), ()), ((x.2.2.2.2.2.1, x.2.2.2.2.2.2.1, x.2.2.2.2.2.2.2.1, x.2.2.2.2.2.2.2.2, ()), ())))
 | .inr x => K .ret (stOf base X1_104_0q (((x, ()), ()), ()))
def L104_0q : LoopSum := ⟨I104_0q, O104_0q, giroref15_short_L0X, fun k d => c104_0q (giroref15_short_L0 k k) d, e104_0q⟩
def A104q : Notes := ⟨[], [(7, L104_0q)]⟩
theorem B104q : EnvB E104q := env_n mixed_orders ⟨F93q, F103q, F96q, F95q, trivial⟩
theorem st104_0q (k : Nat) (rec : giroref15_short_L0T) (d : I104_0q.den) : c104_0q (giroref15_short_L0b k rec) d = evC E104q A104q k 1000 0 130 (loopAt (bodyOf Proofs.Tryz.f108) 0) (stOf (1000 + loopBase) I104_0q d) (roundK 1000 I104_0q O104_0q T104_0q (c104_0q rec)) := by
  obtain ⟨⟨⟨_, _⟩, ⟨_, _⟩, _, ⟨_, _⟩, ⟨_, _⟩, ⟨_, _⟩, ⟨_, _⟩, ⟨_, _⟩, _⟩, ⟨⟨_, _, _, _, _⟩, _⟩⟩ := d
  kernel_rfl
theorem lk104_0q : LoopOK Proofs.Tryz.prog 1000 0 130 (loopAt (bodyOf Proofs.Tryz.f108) 0) L104_0q :=
  loop_b (A := A104q) (inS := I104_0q) (outs := O104_0q) B104q (loopsOK_none (by kernel_rfl)) T104_0q e104_0q (by intro o R K; rcases o with o | o <;> rfl) (fun k n d => c104_0q (giroref15_short_L0 k n) d) (fun _ _ => rfl) (fun k n d => st104_0q k (giroref15_short_L0 k n) d)
def as104q : List AS := [.agg [.dat false y3q, .dat false (.sl (.int .i64)), .dat false (.int .i64), .dat false (.sl (.int .i64))], .c (.dat false y7q), .c (.int .i64)]
def rs104q : RS := .c (.bool)
def pk104q : Bool → RL rs104q.cells := fun x => (x, ())
def up104q : RL rs104q.cells → Bool := fun d => d.1
def s104q (k : Nat) (d : AD as104q) := giroref15_short k d.1 d.2.1 d.2.2.1 d.2.2.2.1 d.2.2.2.2.1 d.2.2.2.2.2.1
def R104q : Nat × Entry := (108, fun k nm args h => entry as104q rs104q (s104q k) pk104q nm args h)
theorem ev104q (k : Nat) (d : AD as104q) : evF E104q A104q k 1000 0 Proofs.Tryz.f108 (absArgs as104q d).1 (absArgs as104q d).2 (outM rs104q up104q) = s104q k d := by
  obtain ⟨_, _, _, _, _, _, _⟩ := d
  kernel_rfl
theorem F104q : FnOK Proofs.Tryz.prog R104q := fn_b (E := E104q) (A := A104q) (na := 0) (fn := Proofs.Tryz.f108) (S := s104q) (unpack := up104q) B104q (by kernel_rfl) (loopsOK_of (n := 1) (by kernel_rfl) fun i hi => match i, hi with | 0, _ => ⟨L104_0q, by kernel_rfl, lk104_0q⟩ | i + 1, hi => absurd hi (by omega)) (by kernel_rfl) (by kernel_rfl) (fun _ => rfl) ev104q

/-! ### giro/giroref15.Short -/
noncomputable def E105q : Env := ⟨Proofs.Tryz.prog, fun _ => false, sumsOf [R104q]⟩
def I105_0q : Spec := ⟨[(1, .c (.dat false y7q)), (2, .c (.lit (.ptr 1001000 0))), (5, .c (.lit (.osl 1001001 none))), (6, .c (.int .i64))], [.box true [.dat false y3q, .dat false (.sl (.int .i64)), .dat false (.int .i64), .dat false (.sl (.int .i64))], .arr true (.int .i64)], [(5, none, (.int .i64), false)]⟩
def X0_105_0q : Spec := ⟨[(5, .c (.lit (.osl 1001000 none)))], [.arr true (.int .i64)], []⟩
def O105_0q : List (Ex × Spec) := [(.exit 0, X0_105_0q)]
def c105_0q (f : giroref15_Short_L0T) (d : I105_0q.den) : Option (List Int) := f d.1.1.1 d.1.2.2.2.1.1 d.2.1.1 d.2.1.2.1 d.2.1.2.2.1 d.2.1.2.2.2.1 d.2.2.1
def T105_0q : OutD O105_0q → (List Int) := fun d => d.2.1
def e105_0q (base : Nat) (x : (List Int)) (R : Type) (K : Ex → St → Option R) : Option R := K (.exit 0) (stOf base X0_105_0q (((), ()), (x, ())))
def L105_0q : LoopSum := ⟨I105_0q, O105_0q, (List Int), fun k d => c105_0q (giroref15_Short_L0 k k) d, e105_0q⟩
def A105q : Notes := ⟨[], [(3, L105_0q)]⟩
theorem B105q : EnvB E105q := env_n mixed_orders ⟨F104q, trivial⟩
theorem st105_0q (k : Nat) (rec : giroref15_Short_L0T) (d : I105_0q.den) : c105_0q (giroref15_Short_L0b k rec) d = evC E105q A105q k 1000 0 23 (loopAt (bodyOf Proofs.Tryz.f81) 0) (stOf (1000 + loopBase) I105_0q d) (roundK 1000 I105_0q O105_0q T105_0q (c105_0q rec)) := by
  obtain ⟨⟨⟨_, _⟩, _, _, ⟨_, _⟩, _⟩, ⟨⟨_, _, _, _, _⟩, _, _⟩⟩ := d
  kernel_rfl
theorem lk105_0q : LoopOK Proofs.Tryz.prog 1000 0 23 (loopAt (bodyOf Proofs.Tryz.f81) 0) L105_0q :=
  loop_b (A := A105q) (inS := I105_0q) (outs := O105_0q) B105q (loopsOK_none (by kernel_rfl)) T105_0q e105_0q (fun _ _ _ => rfl) (fun k n d => c105_0q (giroref15_Short_L0 k n) d) (fun _ _ => rfl) (fun k n d => st105_0q k (giroref15_Short_L0 k n) d)
def as105q : List AS := [.agg [.dat false y3q, .dat false (.sl (.int .i64)), .dat false (.int .i64), .dat false (.sl (.int .i64))], .c (.dat false y7q)]
def rs105q : RS := .c (.own (.int .i64))
def pk105q : List Int → RL rs105q.cells := fun x => (x, ())
def up105q : RL rs105q.cells → List Int := fun d => d.1
def s105q (k : Nat) (d : AD as105q) := giroref15_Short k d.1 d.2.1 d.2.2.1 d.2.2.2.1 d.2.2.2.2.1
def R105q : Nat × Entry := (81, fun k nm args h => entry as105q rs105q (s105q k) pk105q nm args h)
theorem ev105q (k : Nat) (d : AD as105q) : evF E105q A105q k 1000 0 Proofs.Tryz.f81 (absArgs as105q d).1 (absArgs as105q d).2 (outM rs105q up105q) = s105q k d := by
  obtain ⟨_, _, _, _, _, _⟩ := d
  kernel_rfl
theorem F105q : FnOK Proofs.Tryz.prog R105q := fn_b (E := E105q) (A := A105q) (na := 0) (fn := Proofs.Tryz.f81) (S := s105q) (unpack := up105q) B105q (by kernel_rfl) (loopsOK_of (n := 1) (by kernel_rfl) fun i hi => match i, hi with | 0, _ => ⟨L105_0q, by kernel_rfl, lk105_0q⟩ | i + 1, hi => absurd hi (by omega)) (by kernel_rfl) (by kernel_rfl) (fun _ => rfl) ev105q

/-! ### giro/giroref15.Fits -/
noncomputable def E106q : Env := ⟨Proofs.Tryz.prog, fun _ => false, sumsOf [R90q, R105q]⟩
def A106q : Notes := ⟨[], []⟩
theorem B106q : EnvB E106q := env_n mixed_orders ⟨F90q, F105q, trivial⟩
def as106q : List AS := [.agg [.dat false y3q, .dat false (.sl (.int .i64)), .dat false (.int .i64), .dat false (.sl (.int .i64))], .c (.dat false y7q)]
def rs106q : RS := .c (.bool)
def pk106q : Bool → RL rs106q.cells := fun x => (x, ())
def up106q : RL rs106q.cells → Bool := fun d => d.1
def s106q (k : Nat) (d : AD as106q) := giroref15_Fits k d.1 d.2.1 d.2.2.1 d.2.2.2.1 d.2.2.2.2.1
def R106q : Nat × Entry := (56, fun k nm args h => entry as106q rs106q (s106q k) pk106q nm args h)
theorem ev106q (k : Nat) (d : AD as106q) : evF E106q A106q k 1000 0 Proofs.Tryz.f56 (absArgs as106q d).1 (absArgs as106q d).2 (outM rs106q up106q) = s106q k d := by
  obtain ⟨_, _, _, _, _, _⟩ := d
  kernel_rfl
theorem F106q : FnOK Proofs.Tryz.prog R106q := fn_b (E := E106q) (A := A106q) (na := 0) (fn := Proofs.Tryz.f56) (S := s106q) (unpack := up106q) B106q (by kernel_rfl) (loopsOK_none (by kernel_rfl)) (by kernel_rfl) (by kernel_rfl) (fun _ => rfl) ev106q

/-! ### giro/giroref18.Goes -/
noncomputable def E107q : Env := ⟨Proofs.Tryz.prog, fun _ => false, sumsOf [R102q, R106q]⟩
def A107q : Notes := ⟨[], []⟩
theorem B107q : EnvB E107q := env_n mixed_orders ⟨F102q, F106q, trivial⟩
def as107q : List AS := [.agg [.dat true y3q, .dat true (.sl (.int .i64)), .dat true (.int .i64), .dat true (.sl (.int .i64))], .c (.dat false y7q)]
def rs107q : RS := .tup [(true, [.fro y3q, .fro (.sl (.int .i64)), .fro (.int .i64), .fro (.sl (.int .i64))]), (false, [.bool])]
def pk107q : (List K2q) × (List (List Int)) × (List Int) × (List (List Int)) × Bool → RL rs107q.cells := fun x => (x.1, x.2.1, x.2.2.1, x.2.2.2.1, x.2.2.2.2, ())
def up107q : RL rs107q.cells → (List K2q) × (List (List Int)) × (List Int) × (List (List Int)) × Bool := fun d => (d.1, d.2.1, d.2.2.1, d.2.2.2.1, d.2.2.2.2.1)
def s107q (k : Nat) (d : AD as107q) := giroref18_Goes k d.1 d.2.1 d.2.2.1 d.2.2.2.1 d.2.2.2.2.1
def R107q : Nat × Entry := (30, fun k nm args h => entry as107q rs107q (s107q k) pk107q nm args h)
theorem ev107q (k : Nat) (d : AD as107q) : evF E107q A107q k 1000 0 Proofs.Tryz.f30 (absArgs as107q d).1 (absArgs as107q d).2 (outM rs107q up107q) = s107q k d := by
  obtain ⟨_, _, _, _, _, _⟩ := d
  kernel_rfl
theorem F107q : FnOK Proofs.Tryz.prog R107q := fn_b (E := E107q) (A := A107q) (na := 0) (fn := Proofs.Tryz.f30) (S := s107q) (unpack := up107q) B107q (by kernel_rfl) (loopsOK_none (by kernel_rfl)) (by kernel_rfl) (by kernel_rfl) (fun _ => rfl) ev107q

/-! ### giro/giroref18.Next -/
noncomputable def E108q : Env := ⟨Proofs.Tryz.prog, fun _ => false, sumsOf [R88q, R107q]⟩
def I108_0q : Spec := ⟨[(3, .c (.lit (.ptr 1001000 0))), (6, .c (.lit (.ptr 1001001 0))), (8, .c (.lit (.osl 1001002 none))), (9, .c (.int .i64))], [.box true [.dat true y3q, .dat true (.sl (.int .i64)), .dat true (.int .i64), .dat true (.sl (.int .i64))], .box true [.int .i64, .int .i64, .int .i64, .int .i64, .int .i64, .int .i64, .int .i64], .arr true y7q], []⟩
def X0_108_0q : Spec := ⟨[(6, .c (.lit (.ptr 1001000 0)))], [.box true [.int .i64, .int .i64, .int .i64, .int .i64, .int .i64, .int .i64, .int .i64]], []⟩
def X1_108_0q : Spec := ⟨[(6, .c (.lit (.ptr 1001000 0))), (7, .c (.bool))], [.box true [.int .i64, .int .i64, .int .i64, .int .i64, .int .i64, .int .i64, .int .i64]], []⟩
def O108_0q : List (Ex × Spec) := [(.exit 0, X0_108_0q), (.ret, X1_108_0q)]
def c108_0q (f : giroref18_Next_L0T) (d : I108_0q.den) : Option giroref18_Next_L0X := f d.1.2.2.2.1.1 d.2.1.1 d.2.1.2.1 d.2.1.2.2.1 d.2.1.2.2.2.1 d.2.2.1.1 d.2.2.1.2.1 d.2.2.1.2.2.1 d.2.2.1.2.2.2.1 d.2.2.1.2.2.2.2.1 d.2.2.1.2.2.2.2.2.1 d.2.2.1.2.2.2.2.2.2.1 d.2.2.2.1
def T108_0q : OutD O108_0q → giroref18_Next_L0X
 | .inl d => .inl (d.2.1.1, d.2.1.2.1, d.2.1.2.2.1, d.2.1.2.2.2.1, d.2.1.2.2.2.2.1, d.2.1.2.2.2.2.2.1, d.2.1.2.2.2.2.2.2.1)
 | .inr d => .inr (d.1.2.1.1, d.2.1.1, d.2.1.2.1, d.2.1.2.2.1, d.2.1.2.2.2.1, d.2.1.2.2.2.2.1, d.2.1.2.2.2.2.2.1, d.2.1.2.2.2.2.2.2.1)
def e108_0q (base : Nat) (x : giroref18_Next_L0X) (R : Type) (K : Ex → St → Option R) : Option R := match x with
 | .inl x => K (.exit 0) (stOf base X0_108_0q (((), ()), ((x.1, x.2.1, x.2.2.1, x.2.2.2.1, x.2.2.2.2.1, x.2.2.2.2.2.1, x.2.2.2.2.2.2, ()), ())))
 | .inr x => K .ret (stOf base X1_108_0q (((), (x.1, ()), ()), ((x.2.1, x.2.2.1, x.2.2.2.1, x.2.2.2.2.1, x.2.2.2.2.2.1, x.2.2.2.2.2.2.1, x.2.2.2.2.2.2.2, ()), ())))
def L108_0q : LoopSum := ⟨I108_0q, O108_0q, giroref18_Next_L0X, fun k d => c108_0q (giroref18_Next_L0 k k) d, e108_0q⟩
def A108q : Notes := ⟨[], [(3, L108_0q)]⟩
theorem B108q : EnvB E108q := env_n mixed_orders ⟨F88q, F107q, trivial⟩
theorem st108_0q (k : Nat) (rec : giroref18_Next_L0T) (d : I108_0q.den) : c108_0q (giroref18_Next_L0b k rec) d = evC E108q A108q k 1000 0 37 (loopAt (bodyOf Proofs.Tryz.f14) 0) (stOf (1000 + loopBase) I108_0q d) (roundK 1000 I108_0q O108_0q T108_0q (c108_0q rec)) := by
  obtain ⟨⟨_, _, _, ⟨_, _⟩, _⟩, ⟨⟨_, _, _, _, _⟩, ⟨_, _, _, _, _, _, _, _⟩, _, _⟩⟩ := d
  kernel_rfl
theorem lk108_0q : LoopOK Proofs.Tryz.prog 1000 0 37 (loopAt (bodyOf Proofs.Tryz.f14) 0) L108_0q :=
  loop_b (A := A108q) (inS := I108_0q) (outs := O108_0q) B108q (loopsOK_none (by kernel_rfl)) T108_0q e108_0q (by intro o R K; rcases o with o | o <;> rfl) (fun k n d => c108_0q (giroref18_Next_L0 k n) d) (fun _ _ => rfl) (fun k n d => st108_0q k (giroref18_Next_L0 k n) d)
def as108q : List AS := [.agg [.dat true y3q, .dat true (.sl (.int .i64)), .dat true (.int .i64), .dat true (.sl (.int .i64))], .c (.dat true y7q), .c (.int .i64)]
def rs108q : RS := .tup [(true, [.int .i64, .int .i64, .int .i64, .int .i64, .int .i64, .int .i64, .int .i64]), (false, [.bool])]
def pk108q : Int × Int × Int × Int × Int × Int × Int × Bool → RL rs108q.cells := fun x => (x.1, x.2.1, x.2.2.1, x.2.2.2.1, x.2.2.2.2.1, x.2.2.2.2.2.1, x.2.2.2.2.2.2.1, x.2.2.2.2.2.2.2, ())
def up108q : RL rs108q.cells → Int × Int × Int × Int × Int × Int × Int × Bool := fun d => (d.1, d.2.1, d.2.2.1, d.2.2.2.1, d.2.2.2.2.1, d.2.2.2.2.2.1, d.2.2.2.2.2.2.1, d.2.2.2.2.2.2.2.1)
def s108q (k : Nat) (d : AD as108q) := giroref18_Next k d.1 d.2.1 d.2.2.1 d.2.2.2.1 d.2.2.2.2.1 d.2.2.2.2.2.1
def R108q : Nat × Entry := (14, fun k nm args h => entry as108q rs108q (s108q k) pk108q nm args h)
theorem ev108q (k : Nat) (d : AD as108q) : evF E108q A108q k 1000 0 Proofs.Tryz.f14 (absArgs as108q d).1 (absArgs as108q d).2 (outM rs108q up108q) = s108q k d := by
  obtain ⟨_, _, _, _, _, _, _⟩ := d
  kernel_rfl
theorem F108q : FnOK Proofs.Tryz.prog R108q := fn_b (E := E108q) (A := A108q) (na := 0) (fn := Proofs.Tryz.f14) (S := s108q) (unpack := up108q) B108q (by kernel_rfl) (loopsOK_of (n := 1) (by kernel_rfl) fun i hi => match i, hi with | 0, _ => ⟨L108_0q, by kernel_rfl, lk108_0q⟩ | i + 1, hi => absurd hi (by omega)) (by kernel_rfl) (by kernel_rfl) (fun _ => rfl) ev108q

/-! ### giro/giroref13.Drop -/
noncomputable def E109q : Env := ⟨Proofs.Tryz.prog, fun _ => false, sumsOf [R1q]⟩
def A109q : Notes := ⟨[], []⟩
theorem B109q : EnvB E109q := env_n mixed_orders ⟨F1q, trivial⟩
def as109q : List AS := [.c (.dat true y7q), .c (.int .i64)]
def rs109q : RS := .tup [(false, [.fro y7q]), (true, [.int .i64, .int .i64, .int .i64, .int .i64, .int .i64, .int .i64, .int .i64]), (false, [.int .i64])]
def pk109q : (List K1q) × Int × Int × Int × Int × Int × Int × Int × Int → RL rs109q.cells := fun x => (x.1, x.2.1, x.2.2.1, x.2.2.2.1, x.2.2.2.2.1, x.2.2.2.2.2.1, x.2.2.2.2.2.2.1, x.2.2.2.2.2.2.2.1, x.2.2.2.2.2.2.2.2, ())
def up109q : RL rs109q.cells → (List K1q) × Int × Int × Int × Int × Int × Int × Int × Int := fun d => (d.1, d.2.1, d.2.2.1, d.2.2.2.1, d.2.2.2.2.1, d.2.2.2.2.2.1, d.2.2.2.2.2.2.1, d.2.2.2.2.2.2.2.1, d.2.2.2.2.2.2.2.2.1)
def s109q (k : Nat) (d : AD as109q) := giroref13_Drop k d.1 d.2.1
def R109q : Nat × Entry := (51, fun k nm args h => entry as109q rs109q (s109q k) pk109q nm args h)
theorem ev109q (k : Nat) (d : AD as109q) : evF E109q A109q k 1000 0 Proofs.Tryz.f51 (absArgs as109q d).1 (absArgs as109q d).2 (outM rs109q up109q) = s109q k d := by
  obtain ⟨_, _, _⟩ := d
  kernel_rfl
theorem F109q : FnOK Proofs.Tryz.prog R109q := fn_b (E := E109q) (A := A109q) (na := 0) (fn := Proofs.Tryz.f51) (S := s109q) (unpack := up109q) B109q (by kernel_rfl) (loopsOK_none (by kernel_rfl)) (by kernel_rfl) (by kernel_rfl) (fun _ => rfl) ev109q

/-! ### giro/giroref18.Run -/
noncomputable def E110q : Env := ⟨Proofs.Tryz.prog, fun _ => false, sumsOf [R108q, R107q, R109q]⟩
def I110_0q : Spec := ⟨[(1, .c (.dat true y7q)), (2, .c (.int .i64)), (3, .c (.lit (.ptr 1001000 0))), (6, .c (.lit (.ptr 1001001 0))), (9, .c (.lit (.osl 1001002 none)))], [.box true [.dat true y3q, .dat true (.sl (.int .i64)), .dat true (.int .i64), .dat true (.sl (.int .i64))], .box true [.lit .nsl, .lit .nsl, .lit .nsl, .lit .nsl], .arr true y7q], [(9, none, y7q, false)]⟩
def X0_110_0q : Spec := ⟨[(6, .c (.lit (.ptr 1001000 0))), (7, .c (.dat true y7q)), (8, .c (.lit (.osl 1001001 none)))], [.box true [.dat true y3q, .dat true (.sl (.int .i64)), .dat true (.int .i64), .dat true (.sl (.int .i64))], .arr true y7q], []⟩
def O110_0q : List (Ex × Spec) := [(.ret, X0_110_0q)]
def c110_0q (f : giroref18_Run_L0T) (d : I110_0q.den) : Option giroref18_Run_L0X := f d.1.1.1 d.1.2.1.1 d.2.1.1 d.2.1.2.1 d.2.1.2.2.1 d.2.1.2.2.2.1 d.2.2.2.1
def T110_0q : OutD O110_0q → giroref18_Run_L0X := fun d => (d.1.2.1.1, d.2.1.1, d.2.1.2.1, d.2.1.2.2.1, d.2.1.2.2.2.1, d.2.2.1)
def e110_0q (base : Nat) (x : giroref18_Run_L0X) (R : Type) (K : Ex → St → Option R) : Option R := K .ret (stOf base X0_110_0q (((), (x.1, ()), (), ()), ((x.2.1, x.2.2.1, x.2.2.2.1, x.2.2.2.2.1, ()), x.2.2.2.2.2, ())))
def L110_0q : LoopSum := ⟨I110_0q, O110_0q, giroref18_Run_L0X, fun k d => c110_0q (giroref18_Run_L0 k k) d, e110_0q⟩
def A110q : Notes := ⟨[], [(2, L110_0q)]⟩
theorem B110q : EnvB E110q := env_n mixed_orders ⟨F108q, F107q, F109q, trivial⟩
theorem st110_0q (k : Nat) (rec : giroref18_Run_L0T) (d : I110_0q.den) : c110_0q (giroref18_Run_L0b k rec) d = evC E110q A110q k 1000 0 43 (loopAt (bodyOf Proofs.Tryz.f45) 0) (stOf (1000 + loopBase) I110_0q d) (roundK 1000 I110_0q O110_0q T110_0q (c110_0q rec)) := by
  obtain ⟨⟨⟨_, _⟩, ⟨_, _⟩, _, _, _, _⟩, ⟨⟨_, _, _, _, _⟩, _, _, _⟩⟩ := d
  kernel_rfl
theorem lk110_0q : LoopOK Proofs.Tryz.prog 1000 0 43 (loopAt (bodyOf Proofs.Tryz.f45) 0) L110_0q :=
  loop_b (A := A110q) (inS := I110_0q) (outs := O110_0q) B110q (loopsOK_none (by kernel_rfl)) T110_0q e110_0q (fun _ _ _ => rfl) (fun k n d => c110_0q (giroref18_Run_L0 k n) d) (fun _ _ => rfl) (fun k n d => st110_0q k (giroref18_Run_L0 k n) d)
def as110q : List AS := [.agg [.dat true y3q, .dat true (.sl (.int .i64)), .dat true (.int .i64), .dat true (.sl (.int .i64))], .c (.dat true y7q), .c (.int .i64)]
def rs110q : RS := .tup [(true, [.fro y3q, .fro (.sl (.int .i64)), .fro (.int .i64), .fro (.sl (.int .i64))]), (false, [.fro y7q]), (false, [.own y7q])]
def pk110q : (List K2q) × (List (List Int)) × (List Int) × (List (List Int)) × (List K1q) × (List K1q) → RL rs110q.cells := fun x => (x.1, x.2.1, x.2.2.1, x.2.2.2.1, x.2.2.2.2.1, x.2.2.2.2.2, ())
def up110q : RL rs110q.cells → (List K2q) × (List (List Int)) × (List Int) × (List (List Int)) × (List K1q) × (List K1q) := fun d => (d.1, d.2.1, d.2.2.1, d.2.2.2.1, d.2.2.2.2.1, d.2.2.2.2.2.1)
def s110q (k : Nat) (d : AD as110q) := giroref18_Run k d.1 d.2.1 d.2.2.1 d.2.2.2.1 d.2.2.2.2.1 d.2.2.2.2.2.1
def R110q : Nat × Entry := (45, fun k nm args h => entry as110q rs110q (s110q k) pk110q nm args h)
theorem ev110q (k : Nat) (d : AD as110q) : evF E110q A110q k 1000 0 Proofs.Tryz.f45 (absArgs as110q d).1 (absArgs as110q d).2 (outM rs110q up110q) = s110q k d := by
  obtain ⟨_, _, _, _, _, _, _⟩ := d
  kernel_rfl
theorem F110q : FnOK Proofs.Tryz.prog R110q := fn_b (E := E110q) (A := A110q) (na := 0) (fn := Proofs.Tryz.f45) (S := s110q) (unpack := up110q) B110q (by kernel_rfl) (loopsOK_of (n := 1) (by kernel_rfl) fun i hi => match i, hi with | 0, _ => ⟨L110_0q, by kernel_rfl, lk110_0q⟩ | i + 1, hi => absurd hi (by omega)) (by kernel_rfl) (by kernel_rfl) (fun _ => rfl) ev110q

/-! ### giro/giroref19.Next -/
noncomputable def E111q : Env := ⟨Proofs.Tryz.prog, fun _ => false, sumsOf [R88q, R107q]⟩
def I111_0q : Spec := ⟨[(3, .c (.lit (.ptr 1001000 0))), (6, .c (.lit (.ptr 1001001 0))), (7, .c (.lit (.ptr 1001002 0))), (9, .c (.lit (.osl 1001003 none))), (10, .c (.int .i64)), (11, .c (.int .i64))], [.box true [.dat true y3q, .dat true (.sl (.int .i64)), .dat true (.int .i64), .dat true (.sl (.int .i64))], .box true [.int .i64, .int .i64, .int .i64, .int .i64, .int .i64, .int .i64, .int .i64], .box true [.int .i64, .int .i64, .int .i64, .int .i64, .int .i64, .int .i64, .int .i64], .arr true y7q], []⟩
def X0_111_0q : Spec := ⟨[(3, .c (.lit (.ptr 1001000 0))), (6, .c (.lit (.ptr 1001001 0))), (7, .c (.lit (.ptr 1001002 0))), (9, .c (.lit (.osl 1001003 none))), (10, .c (.int .i64))], [.box true [.dat true y3q, .dat true (.sl (.int .i64)), .dat true (.int .i64), .dat true (.sl (.int .i64))], .box true [.int .i64, .int .i64, .int .i64, .int .i64, .int .i64, .int .i64, .int .i64], .box true [.int .i64, .int .i64, .int .i64, .int .i64, .int .i64, .int .i64, .int .i64], .arr true y7q], []⟩
def X1_111_0q : Spec := ⟨[(6, .c (.lit (.ptr 1001000 0))), (7, .c (.lit (.ptr 1001001 0))), (8, .c (.bool))], [.box true [.int .i64, .int .i64, .int .i64, .int .i64, .int .i64, .int .i64, .int .i64], .box true [.int .i64, .int .i64, .int .i64, .int .i64, .int .i64, .int .i64, .int .i64]], []⟩
def O111_0q : List (Ex × Spec) := [(.exit 2, X0_111_0q), (.ret, X1_111_0q)]
def c111_0q (f : giroref19_Next_L1T) (d : I111_0q.den) : Option giroref19_Next_L1X := f d.1.2.2.2.2.1.1 d.1.2.2.2.2.2.1.1 d.2.1.1 d.2.1.2.1 d.2.1.2.2.1 d.2.1.2.2.2.1 d.2.2.1.1 d.2.2.1.2.1 d.2.2.1.2.2.1 d.2.2.1.2.2.2.1 d.2.2.1.2.2.2.2.1 d.2.2.1.2.2.2.2.2.1 d.2.2.1.2.2.2.2.2.2.1 d.2.2.2.1.1 d.2.2.2.1.2.1 d.2.2.2.1.2.2.1 d.2.2.2.1.2.2.2.1 d.2.2.2.1.2.2.2.2.1 d.2.2.2.1.2.2.2.2.2.1 d.2.2.2.1.2.2.2.2.2.2.1 d.2.2.2.2.1
def T111_0q : OutD O111_0q → giroref19_Next_L1X
 | .inl d => .inl (d.1.2.2.2.2.1.1, d.2.1.1, d.2.1.2.1, d.2.1.2.2.1, d.2.1.2.2.2.1, d.2.2.1.1, d.2.2.1.2.1, d.2.2.1.2.2.1, d.2.2.1.2.2.2.1, d.2.2.1.2.2.2.2.1, d.2.2.1.2.2.2.2.2.1, d.2.2.1.2.2.2.2.2.2.1, d.2.2.2.1.1, d.2.2.2.1.2.1, d.2.2.2.1.2.2.1, d.2.2.2.1.2.2.2.1, d.2.2.2.1.2.2.2.2.1, d.2.2.2.1.2.2.2.2.2.1, d.2.2.2.1.2.2.2.2.2.2.1, d.2.2.2.2.1)
 | .inr d => .inr (d.1.2.2.1.1, d.2.1.1, d.2.1.2.1, d.2.1.2.2.1, d.2.1.2.2.2.1, d.2.1.2.2.2.2.1, d.2.1.2.2.2.2.2.1, d.2.1.2.2.2.2.2.2.1, d.2.2.1.1, d.2.2.1.2.1, d.2.2.1.2.2.1, d.2.2.1.2.2.2.1, d.2.2.1.2.2.2.2.1, d.2.2.1.2.2.2.2.2.1, d.2.2.1.2.2.2.2.2.2.1)
def e111_0q (base : Nat) (x : giroref19_Next_L1X) (R : Type) (K : Ex → St → Option R) : Option R := match x with
 | .inl x => K (.exit 2) (stOf base X0_111_0q (((), (), (), (), (x.1, ()), ()), ((x.2.1, x.2.2.1, x.2.2.2.1, x.2.2.2.2.1, ()), (x.2.2.2.2.2.1, x.2.2.2.2.2.2.1, x.2.2.2.2.2.2.2.1, x.2.2.2.2.2.2.2.2.1, x.2.2.2.2.2.2.2.2.2.1, x.2.2.2.2.2.2.2.2.2.2.1, x.2.2.2.2.2.2.2.2.2.2.2.1, ()), (x.2.2.2.2.2.2.2.2.2.2.2.2.1, x.2.2.2.2.2.2.2.2.2.2.2.2.2.1, x.2.2.2.2.2.2.2.2.2.2.2.2.2.2.1, x.2.2.2.2.2.2.2.2.2.2.2.2.2.2.2.1, x.2.2.2.2.2.2.2.2.2.2.2.2.2.2.2.2.1, x.2.2.2.2.2.2.2.2.2.2.2.2.2.2.2.2.2.1, x.2.2.2.2.2.2.2.2.2.2.2.2.2.2.2.2.2.2.1, ()), x.2.2.2.2.2.2.2.2.2.2.2.2.2.2.2.2.2.2.2, ())))
 | .inr x => K .ret (stOf base X1_111_0q (((), (), (x.1, ()), ()), ((x.2.1, x.2.2.1, x.2.2.2.1, x.2.2.2.2.1, x.2.2.2.2.2.1, x.2.2.2.2.2.2.1, x.2.2.2.2.2.2.2.1, ()), (x.2.2.2.2.2.2.2.2.1, x.2.2.2.2.2.2.2.2.2.1, x.2.2.2.2.2.2.2.2.2.2.1, x.2.2.2.2.2.2.2.2.2.2.2.1, x.2.2.2.2.2.2.2.2.2.2.2.2.1, x.2.2.2.2.2.2.2.2.2.2.2.2.2.1, x.2.2.2.2.2.2.2.2.2.2.2.2.2.2, ()), ())))
def L111_0q : LoopSum := ⟨I111_0q, O111_0q, giroref19_Next_L1X, fun k d => c111_0q (giroref19_Next_L1 k k) d, e111_0q⟩
def I111_1q : Spec := ⟨[(3, .c (.lit (.ptr 1001000 0))), (6, .c (.lit (.ptr 1001001 0))), (7, .c (.lit (.ptr 1001002 0))), (9, .c (.lit (.osl 1001003 none))), (10, .c (.int .i64))], [.box true [.dat true y3q, .dat true (.sl (.int .i64)), .dat true (.int .i64), .dat true (.sl (.int .i64))], .box true [.int .i64, .int .i64, .int .i64, .int .i64, .int .i64, .int .i64, .int .i64], .box true [.int .i64, .int .i64, .int .i64, .int .i64, .int .i64, .int .i64, .int .i64], .arr true y7q], []⟩
def X0_111_1q : Spec := ⟨[(6, .c (.lit (.ptr 1001000 0))), (7, .c (.lit (.ptr 1001001 0)))], [.box true [.int .i64, .int .i64, .int .i64, .int .i64, .int .i64, .int .i64, .int .i64], .box true [.int .i64, .int .i64, .int .i64, .int .i64, .int .i64, .int .i64, .int .i64]], []⟩
def X1_111_1q : Spec := ⟨[(6, .c (.lit (.ptr 1001000 0))), (7, .c (.lit (.ptr 1001001 0))), (8, .c (.bool))], [.box true [.int .i64, .int .i64, .int .i64, .int .i64, .int .i64, .int .i64, .int .i64], .box true [.int .i64, .int .i64, .int .i64, .int .i64, .int .i64, .int .i64, .int .i64]], []⟩
def O111_1q : List (Ex × Spec) := [(.exit 0, X0_111_1q), (.ret, X1_111_1q)]
def c111_1q (f : giroref19_Next_L0T) (d : I111_1q.den) : Option giroref19_Next_L0X := f d.1.2.2.2.2.1.1 d.2.1.1 d.2.1.2.1 d.2.1.2.2.1 d.2.1.2.2.2.1 d.2.2.1.1 d.2.2.1.2.1 d.2.2.1.2.2.1 d.2.2.1.2.2.2.1 d.2.2.1.2.2.2.2.1 d.2.2.1.2.2.2.2.2.1 d.2.2.1.2.2.2.2.2.2.1 d.2.2.2.1.1 d.2.2.2.1.2.1 d.2.2.2.1.2.2.1 d.2.2.2.1.2.2.2.1 d.2.2.2.1.2.2.2.2.1 d.2.2.2.1.2.2.2.2.2.1 d.2.2.2.1.2.2.2.2.2.2.1 d.2.2.2.2.1
def T111_1q : OutD O111_1q → giroref19_Next_L0X
 | .inl d => .inl (d.2.1.1, d.2.1.2.1, d.2.1.2.2.1, d.2.1.2.2.2.1, d.2.1.2.2.2.2.1, d.2.1.2.2.2.2.2.1, d.2.1.2.2.2.2.2.2.1, d.2.2.1.1, d.2.2.1.2.1, d.2.2.1.2.2.1, d.2.2.1.2.2.2.1, d.2.2.1.2.2.2.2.1, d.2.2.1.2.2.2.2.2.1, d.2.2.1.2.2.2.2.2.2.1)
 | .inr d => .inr (d.1.2.2.1.1, d.2.1.1, d.2.1.2.1, d.2.1.2.2.1, d.2.1.2.2.2.1, d.2.1.2.2.2.2.1, d.2.1.2.2.2.2.2.1, d.2.1.2.2.2.2.2.2.1, d.2.2.1.1, d.2.2.1.2.1, d.2.2.1.2.2.1, d.2.2.1.2.2.2.1, d.2.2.1.2.2.2.2.1, d.2.2.1.2.2.2.2.2.1, d.2.2.1.2.2.2.2.2.2.1)
def e111_1q (base : Nat) (x : giroref19_Next_L0X) (R : Type) (K : Ex → St → Option R) : Option R := match x with
 | .inl x => K (.exit 0) (stOf base X0_111_1q (((), (), ()), ((x.1, x.2.1, x.2.2.1, x.2.2.2.1, x.2.2.2.2.1, x.2.2.2.2.2.1, x.2.2.2.2.2.2.1, ()), (x.2.2.2.2.2.2.2.1, x.2.2.2.2.2.2.2.2.1, x.2.2.2.2.2.2.2.2.2.1, x.2.2.2.2.2.2.2.2.2.2.1, x.2.2.2.2.2.2.2.2.2.2.2.1, x.2.2.2.2.2.2.2.2.2.2.2.2.1, x.2.2.2.2.2.2.2.2.2.2.2.2.2, ()), ())))
 | .inr x => K .ret (stOf base X1_111_1q (((), (), (x.1, ()), ()), ((x.2.1, x.2.2.1, x.2.2.2.1, x.2.2.2.2.1, x.2.2.2.2.2.1, x.2.2.2.2.2.2.1, x.2.2.2.2.2.2.2.1, ()), (x.2.2.2.2.2.2.2.2.1, x.2.2.2.2.2.2.2.2.2.1, x.2.2.2.2.2.2.2.2.2.2.1, x.2.2.2.2.2.2.2.2.2.2.2.1, x.2.2.2.2.2.2.2.2.2.2.2.2.1, x.2.2.2.2.2.2.2.2.2.2.2.2.2.1, x.2.2.2.2.2.2.2.2.2.2.2.2.2.2, ()), ())))
def L111_1q : LoopSum := ⟨I111_1q, O111_1q, giroref19_Next_L0X, fun k d => c111_1q (giroref19_Next_L0 k k) d, e111_1q⟩
def A111q : Notes := ⟨[], [(6, L111_0q), (3, L111_1q)]⟩
theorem B111q : EnvB E111q := env_n mixed_orders ⟨F88q, F107q, trivial⟩
theorem st111_0q (k : Nat) (rec : giroref19_Next_L1T) (d : I111_0q.den) : c111_0q (giroref19_Next_L1b k rec) d = evC E111q A111q k 1000 0 71 (loopAt (loopAt (bodyOf Proofs.Tryz.f80) 0) 0) (stOf (1000 + loopBase) I111_0q d) (roundK 1000 I111_0q O111_0q T111_0q (c111_0q rec)) := by
  obtain ⟨⟨_, _, _, _, ⟨_, _⟩, ⟨_, _⟩, _⟩, ⟨⟨_, _, _, _, _⟩, ⟨_, _, _, _, _, _, _, _⟩, ⟨_, _, _, _, _, _, _, _⟩, _, _⟩⟩ := d
  kernel_rfl
theorem lk111_0q : LoopOK Proofs.Tryz.prog 1000 0 71 (loopAt (loopAt (bodyOf Proofs.Tryz.f80) 0) 0) L111_0q :=
  loop_b (A := A111q) (inS := I111_0q) (outs := O111_0q) B111q (loopsOK_none (by kernel_rfl)) T111_0q e111_0q (by intro o R K; rcases o with o | o <;> rfl) (fun k n d => c111_0q (giroref19_Next_L1 k n) d) (fun _ _ => rfl) (fun k n d => st111_0q k (giroref19_Next_L1 k n) d)
theorem st111_1q (k : Nat) (rec : giroref19_Next_L0T) (d : I111_1q.den) : c111_1q (giroref19_Next_L0b k rec) d = evC E111q A111q k 1000 0 71 (loopAt (bodyOf Proofs.Tryz.f80) 0) (stOf (1000 + loopBase) I111_1q d) (roundK 1000 I111_1q O111_1q T111_1q (c111_1q rec)) := by
  obtain ⟨⟨_, _, _, _, ⟨_, _⟩, _⟩, ⟨⟨_, _, _, _, _⟩, ⟨_, _, _, _, _, _, _, _⟩, ⟨_, _, _, _, _, _, _, _⟩, _, _⟩⟩ := d
  kernel_rfl
theorem lk111_1q : LoopOK Proofs.Tryz.prog 1000 0 71 (loopAt (bodyOf Proofs.Tryz.f80) 0) L111_1q :=
  loop_b (A := A111q) (inS := I111_1q) (outs := O111_1q) B111q (loopsOK_of (n := 1) (by kernel_rfl) fun i hi => match i, hi with | 0, _ => ⟨L111_0q, by kernel_rfl, lk111_0q⟩ | i + 1, hi => absurd hi (by omega)) T111_1q e111_1q (by intro o R K; rcases o with o | o <;> rfl) (fun k n d => c111_1q (giroref19_Next_L0 k n) d) (fun _ _ => rfl) (fun k n d => st111_1q k (giroref19_Next_L0 k n) d)
def as111q : List AS := [.agg [.dat true y3q, .dat true (.sl (.int .i64)), .dat true (.int .i64), .dat true (.sl (.int .i64))], .c (.dat true y7q), .c (.int .i64)]
def rs111q : RS := .tup [(true, [.int .i64, .int .i64, .int .i64, .int .i64, .int .i64, .int .i64, .int .i64]), (true, [.int .i64, .int .i64, .int .i64, .int .i64, .int .i64, .int .i64, .int .i64]), (false, [.bool])]
def pk111q : Int × Int × Int × Int × Int × Int × Int × Int × Int × Int × Int × Int × Int × Int × Bool → RL rs111q.cells := fun x => (x.1, x.2.1, x.2.2.1, x.2.2.2.1, x.2.2.2.2.1, x.2.2.2.2.2.1, x.2.2.2.2.2.2.1, x.2.2.2.2.2.2.2.1, x.2.2.2.2.2.2.2.2.1, x.2.2.2.2.2.2.2.2.2.1, x.2.2.2.2.2.2.2.2.2.2.1, x.2.2.2.2.2.2.2.2.2.2.2.1, x.2.2.2.2.2.2.2.2.2.2.2.2.1, x.2.2.2.2.2.2.2.2.2.2.2.2.2.1, x.2.2.2.2.2.2.2.2.2.2.2.2.2.2, ())
def up111q : RL rs111q.cells → Int × Int × Int × Int × Int × Int × Int × Int × Int × Int × Int × Int × Int × Int × Bool := fun d => (d.1, d.2.1, d.2.2.1, d.2.2.2.1, d.2.2.2.2.1, d.2.2.2.2.2.1, d.2.2.2.2.2.2.1, d.2.2.2.2.2.2.2.1, d.2.2.2.2.2.2.2.2.1, d.2.2.2.2.2.2.2.2.2.1, d.2.2.2.2.2.2.2.2.2.2.1, d.2.2.2.2.2.2.2.2.2.2.2.1, d.2.2.2.2.2.2.2.2.2.2.2.2.1, d.2.2.2.2.2.2.2.2.2.2.2.2.2.1, d.2.2.2.2.2.2.2.2.2.2.2.2.2.2.1)
def s111q (k : Nat) (d : AD as111q) := giroref19_Next k d.1 d.2.1 d.2.2.1 d.2.2.2.1 d.2.2.2.2.1 d.2.2.2.2.2.1
def R111q : Nat × Entry := (80, fun k nm args h => entry as111q rs111q (s111q k) pk111q nm args h)
theorem ev111q (k : Nat) (d : AD as111q) : evF E111q A111q k 1000 0 Proofs.Tryz.f80 (absArgs as111q d).1 (absArgs as111q d).2 (outM rs111q up111q) = s111q k d := by
  obtain ⟨_, _, _, _, _, _, _⟩ := d
  kernel_rfl
theorem F111q : FnOK Proofs.Tryz.prog R111q := fn_b (E := E111q) (A := A111q) (na := 0) (fn := Proofs.Tryz.f80) (S := s111q) (unpack := up111q) B111q (by kernel_rfl) (loopsOK_of (n := 1) (by kernel_rfl) fun i hi => match i, hi with | 0, _ => ⟨L111_1q, by kernel_rfl, lk111_1q⟩ | i + 1, hi => absurd hi (by omega)) (by kernel_rfl) (by kernel_rfl) (fun _ => rfl) ev111q

/-! ### giro/giroref19.Run -/
noncomputable def E112q : Env := ⟨Proofs.Tryz.prog, fun _ => false, sumsOf [R111q, R107q, R109q]⟩
def I112_0q : Spec := ⟨[(1, .c (.dat true y7q)), (2, .c (.int .i64)), (3, .c (.lit (.ptr 1001000 0))), (6, .c (.lit (.ptr 1001001 0))), (9, .c (.lit (.osl 1001002 none)))], [.box true [.dat true y3q, .dat true (.sl (.int .i64)), .dat true (.int .i64), .dat true (.sl (.int .i64))], .box true [.lit .nsl, .lit .nsl, .lit .nsl, .lit .nsl], .arr true y7q], [(9, none, y7q, false)]⟩
def X0_112_0q : Spec := ⟨[(6, .c (.lit (.ptr 1001000 0))), (7, .c (.dat true y7q)), (8, .c (.lit (.osl 1001001 none)))], [.box true [.dat true y3q, .dat true (.sl (.int .i64)), .dat true (.int .i64), .dat true (.sl (.int .i64))], .arr true y7q], []⟩
def O112_0q : List (Ex × Spec) := [(.ret, X0_112_0q)]
def c112_0q (f : giroref19_Run_L0T) (d : I112_0q.den) : Option giroref19_Run_L0X := f d.1.1.1 d.1.2.1.1 d.2.1.1 d.2.1.2.1 d.2.1.2.2.1 d.2.1.2.2.2.1 d.2.2.2.1
def T112_0q : OutD O112_0q → giroref19_Run_L0X := fun d => (d.1.2.1.1, d.2.1.1, d.2.1.2.1, d.2.1.2.2.1, d.2.1.2.2.2.1, d.2.2.1)
def e112_0q (base : Nat) (x : giroref19_Run_L0X) (R : Type) (K : Ex → St → Option R) : Option R := K .ret (stOf base X0_112_0q (((), (x.1, ()), (), ()), ((x.2.1, x.2.2.1, x.2.2.2.1, x.2.2.2.2.1, ()), x.2.2.2.2.2, ())))
def L112_0q : LoopSum := ⟨I112_0q, O112_0q, giroref19_Run_L0X, fun k d => c112_0q (giroref19_Run_L0 k k) d, e112_0q⟩
def A112q : Notes := ⟨[], [(2, L112_0q)]⟩
theorem B112q : EnvB E112q := env_n mixed_orders ⟨F111q, F107q, F109q, trivial⟩
theorem st112_0q (k : Nat) (rec : giroref19_Run_L0T) (d : I112_0q.den) : c112_0q (giroref19_Run_L0b k rec) d = evC E112q A112q k 1000 0 55 (loopAt (bodyOf Proofs.Tryz.f46) 0) (stOf (1000 + loopBase) I112_0q d) (roundK 1000 I112_0q O112_0q T112_0q (c112_0q rec)) := by
  obtain ⟨⟨⟨_, _⟩, ⟨_, _⟩, _, _, _, _⟩, ⟨⟨_, _, _, _, _⟩, _, _, _⟩⟩ := d
  kernel_rfl
theorem lk112_0q : LoopOK Proofs.Tryz.prog 1000 0 55 (loopAt (bodyOf Proofs.Tryz.f46) 0) L112_0q :=
  loop_b (A := A112q) (inS := I112_0q) (outs := O112_0q) B112q (loopsOK_none (by kernel_rfl)) T112_0q e112_0q (fun _ _ _ => rfl) (fun k n d => c112_0q (giroref19_Run_L0 k n) d) (fun _ _ => rfl) (fun k n d => st112_0q k (giroref19_Run_L0 k n) d)
def as112q : List AS := [.agg [.dat true y3q, .dat true (.sl (.int .i64)), .dat true (.int .i64), .dat true (.sl (.int .i64))], .c (.dat true y7q), .c (.int .i64)]
def rs112q : RS := .tup [(true, [.fro y3q, .fro (.sl (.int .i64)), .fro (.int .i64), .fro (.sl (.int .i64))]), (false, [.fro y7q]), (false, [.own y7q])]
def pk112q : (List K2q) × (List (List Int)) × (List Int) × (List (List Int)) × (List K1q) × (List K1q) → RL rs112q.cells := fun x => (x.1, x.2.1, x.2.2.1, x.2.2.2.1, x.2.2.2.2.1, x.2.2.2.2.2, ())
def up112q : RL rs112q.cells → (List K2q) × (List (List Int)) × (List Int) × (List (List Int)) × (List K1q) × (List K1q) := fun d => (d.1, d.2.1, d.2.2.1, d.2.2.2.1, d.2.2.2.2.1, d.2.2.2.2.2.1)
def s112q (k : Nat) (d : AD as112q) := giroref19_Run k d.1 d.2.1 d.2.2.1 d.2.2.2.1 d.2.2.2.2.1 d.2.2.2.2.2.1
def R112q : Nat × Entry := (46, fun k nm args h => entry as112q rs112q (s112q k) pk112q nm args h)
theorem ev112q (k : Nat) (d : AD as112q) : evF E112q A112q k 1000 0 Proofs.Tryz.f46 (absArgs as112q d).1 (absArgs as112q d).2 (outM rs112q up112q) = s112q k d := by
  obtain ⟨_, _, _, _, _, _, _⟩ := d
  kernel_rfl
theorem F112q : FnOK Proofs.Tryz.prog R112q := fn_b (E := E112q) (A := A112q) (na := 0) (fn := Proofs.Tryz.f46) (S := s112q) (unpack := up112q) B112q (by kernel_rfl) (loopsOK_of (n := 1) (by kernel_rfl) fun i hi => match i, hi with | 0, _ => ⟨L112_0q, by kernel_rfl, lk112_0q⟩ | i + 1, hi => absurd hi (by omega)) (by kernel_rfl) (by kernel_rfl) (fun _ => rfl) ev112q

/-! ### giro/giroref21.loop -/
noncomputable def E113q : Env := ⟨Proofs.Tryz.prog, fun _ => false, sumsOf [R110q, R112q]⟩
def I113_0q : Spec := ⟨[(1, .c (.dat true y7q)), (2, .c (.int .i64)), (3, .c (.lit (.ptr 1001000 0))), (6, .c (.lit (.ptr 1001001 0))), (9, .c (.lit (.osl 1001002 none)))], [.box true [.dat true y3q, .dat true (.sl (.int .i64)), .dat true (.int .i64), .dat true (.sl (.int .i64))], .box true [.lit .nsl, .lit .nsl, .lit .nsl, .lit .nsl], .arr true y7q], [(9, none, y7q, false)]⟩
def X0_113_0q : Spec := ⟨[(6, .c (.lit (.ptr 1001000 0))), (7, .c (.dat true y7q)), (8, .c (.lit (.osl 1001001 none)))], [.box true [.dat true y3q, .dat true (.sl (.int .i64)), .dat true (.int .i64), .dat true (.sl (.int .i64))], .arr true y7q], []⟩
def O113_0q : List (Ex × Spec) := [(.ret, X0_113_0q)]
def c113_0q (f : giroref21_loop_L0T) (d : I113_0q.den) : Option giroref21_loop_L0X := f d.1.1.1 d.1.2.1.1 d.2.1.1 d.2.1.2.1 d.2.1.2.2.1 d.2.1.2.2.2.1 d.2.2.2.1
def T113_0q : OutD O113_0q → giroref21_loop_L0X := fun d => (d.1.2.1.1, d.2.1.1, d.2.1.2.1, d.2.1.2.2.1, d.2.1.2.2.2.1, d.2.2.1)
def e113_0q (base : Nat) (x : giroref21_loop_L0X) (R : Type) (K : Ex → St → Option R) : Option R := K .ret (stOf base X0_113_0q (((), (x.1, ()), (), ()), ((x.2.1, x.2.2.1, x.2.2.2.1, x.2.2.2.2.1, ()), x.2.2.2.2.2, ())))
def L113_0q : LoopSum := ⟨I113_0q, O113_0q, giroref21_loop_L0X, fun k d => c113_0q (giroref21_loop_L0 k k) d, e113_0q⟩
def A113q : Notes := ⟨[], [(2, L113_0q)]⟩
theorem B113q : EnvB E113q := env_n mixed_orders ⟨F110q, F112q, trivial⟩
theorem st113_0q (k : Nat) (rec : giroref21_loop_L0T) (d : I113_0q.den) : c113_0q (giroref21_loop_L0b k rec) d = evC E113q A113q k 1000 0 45 (loopAt (bodyOf Proofs.Tryz.f20) 0) (stOf (1000 + loopBase) I113_0q d) (roundK 1000 I113_0q O113_0q T113_0q (c113_0q rec)) := by
  obtain ⟨⟨⟨_, _⟩, ⟨_, _⟩, _, _, _, _⟩, ⟨⟨_, _, _, _, _⟩, _, _, _⟩⟩ := d
  kernel_rfl
theorem lk113_0q : LoopOK Proofs.Tryz.prog 1000 0 45 (loopAt (bodyOf Proofs.Tryz.f20) 0) L113_0q :=
  loop_b (A := A113q) (inS := I113_0q) (outs := O113_0q) B113q (loopsOK_none (by kernel_rfl)) T113_0q e113_0q (fun _ _ _ => rfl) (fun k n d => c113_0q (giroref21_loop_L0 k n) d) (fun _ _ => rfl) (fun k n d => st113_0q k (giroref21_loop_L0 k n) d)
def as113q : List AS := [.agg [.dat true y3q, .dat true (.sl (.int .i64)), .dat true (.int .i64), .dat true (.sl (.int .i64))], .c (.dat true y7q), .c (.int .i64)]
def rs113q : RS := .tup [(true, [.fro y3q, .fro (.sl (.int .i64)), .fro (.int .i64), .fro (.sl (.int .i64))]), (false, [.fro y7q]), (false, [.own y7q])]
def pk113q : (List K2q) × (List (List Int)) × (List Int) × (List (List Int)) × (List K1q) × (List K1q) → RL rs113q.cells := fun x => (x.1, x.2.1, x.2.2.1, x.2.2.2.1, x.2.2.2.2.1, x.2.2.2.2.2, ())
def up113q : RL rs113q.cells → (List K2q) × (List (List Int)) × (List Int) × (List (List Int)) × (List K1q) × (List K1q) := fun d => (d.1, d.2.1, d.2.2.1, d.2.2.2.1, d.2.2.2.2.1, d.2.2.2.2.2.1)
def s113q (k : Nat) (d : AD as113q) := giroref21_loop k d.1 d.2.1 d.2.2.1 d.2.2.2.1 d.2.2.2.2.1 d.2.2.2.2.2.1
def R113q : Nat × Entry := (20, fun k nm args h => entry as113q rs113q (s113q k) pk113q nm args h)
theorem ev113q (k : Nat) (d : AD as113q) : evF E113q A113q k 1000 0 Proofs.Tryz.f20 (absArgs as113q d).1 (absArgs as113q d).2 (outM rs113q up113q) = s113q k d := by
  obtain ⟨_, _, _, _, _, _, _⟩ := d
  kernel_rfl
theorem F113q : FnOK Proofs.Tryz.prog R113q := fn_b (E := E113q) (A := A113q) (na := 0) (fn := Proofs.Tryz.f20) (S := s113q) (unpack := up113q) B113q (by kernel_rfl) (loopsOK_of (n := 1) (by kernel_rfl) fun i hi => match i, hi with | 0, _ => ⟨L113_0q, by kernel_rfl, lk113_0q⟩ | i + 1, hi => absurd hi (by omega)) (by kernel_rfl) (by kernel_rfl) (fun _ => rfl) ev113q

/-! ### giro/giroref14.Heads -/
noncomputable def E114q : Env := ⟨Proofs.Tryz.prog, fun _ => false, sumsOf [R87q]⟩
def I114_0q : Spec := ⟨[(0, .c (.dat false y7q)), (1, .c (.dat false (.int .i64))), (5, .c (.lit (.osl 1001000 none))), (6, .c (.int .i64))], [.arr true y7q], [(5, none, y7q, false)]⟩
def X0_114_0q : Spec := ⟨[(5, .c (.lit (.osl 1001000 none)))], [.arr true y7q], []⟩
def O114_0q : List (Ex × Spec) := [(.exit 0, X0_114_0q)]
def c114_0q (f : giroref14_Heads_L0T) (d : I114_0q.den) : Option giroref14_Heads_L0X := f d.1.1.1 d.1.2.1.1 d.1.2.2.2.1.1 d.2.1
def T114_0q : OutD O114_0q → giroref14_Heads_L0X := fun d => d.2.1
def e114_0q (base : Nat) (x : giroref14_Heads_L0X) (R : Type) (K : Ex → St → Option R) : Option R := K (.exit 0) (stOf base X0_114_0q (((), ()), (x, ())))
def L114_0q : LoopSum := ⟨I114_0q, O114_0q, giroref14_Heads_L0X, fun k d => c114_0q (giroref14_Heads_L0 k k) d, e114_0q⟩
def A114q : Notes := ⟨[], [(3, L114_0q)]⟩
theorem B114q : EnvB E114q := env_n mixed_orders ⟨F87q, trivial⟩
theorem st114_0q (k : Nat) (rec : giroref14_Heads_L0T) (d : I114_0q.den) : c114_0q (giroref14_Heads_L0b k rec) d = evC E114q A114q k 1000 0 60 (loopAt (bodyOf Proofs.Tryz.f48) 0) (stOf (1000 + loopBase) I114_0q d) (roundK 1000 I114_0q O114_0q T114_0q (c114_0q rec)) := by
  obtain ⟨⟨⟨_, _⟩, ⟨_, _⟩, _, ⟨_, _⟩, _⟩, ⟨_, _⟩⟩ := d
  kernel_rfl
theorem lk114_0q : LoopOK Proofs.Tryz.prog 1000 0 60 (loopAt (bodyOf Proofs.Tryz.f48) 0) L114_0q :=
  loop_b (A := A114q) (inS := I114_0q) (outs := O114_0q) B114q (loopsOK_none (by kernel_rfl)) T114_0q e114_0q (fun _ _ _ => rfl) (fun k n d => c114_0q (giroref14_Heads_L0 k n) d) (fun _ _ => rfl) (fun k n d => st114_0q k (giroref14_Heads_L0 k n) d)
def as114q : List AS := [.c (.dat false y7q), .c (.dat false (.int .i64))]
def rs114q : RS := .c (.own y7q)
def pk114q : List K1q → RL rs114q.cells := fun x => (x, ())
def up114q : RL rs114q.cells → List K1q := fun d => d.1
def s114q (k : Nat) (d : AD as114q) := giroref14_Heads k d.1 d.2.1
def R114q : Nat × Entry := (48, fun k nm args h => entry as114q rs114q (s114q k) pk114q nm args h)
theorem ev114q (k : Nat) (d : AD as114q) : evF E114q A114q k 1000 0 Proofs.Tryz.f48 (absArgs as114q d).1 (absArgs as114q d).2 (outM rs114q up114q) = s114q k d := by
  obtain ⟨_, _, _⟩ := d
  kernel_rfl
theorem F114q : FnOK Proofs.Tryz.prog R114q := fn_b (E := E114q) (A := A114q) (na := 0) (fn := Proofs.Tryz.f48) (S := s114q) (unpack := up114q) B114q (by kernel_rfl) (loopsOK_of (n := 1) (by kernel_rfl) fun i hi => match i, hi with | 0, _ => ⟨L114_0q, by kernel_rfl, lk114_0q⟩ | i + 1, hi => absurd hi (by omega)) (by kernel_rfl) (by kernel_rfl) (fun _ => rfl) ev114q

/-! ### giro/giroref20.Most -/
noncomputable def E115q : Env := ⟨Proofs.Tryz.prog, fun _ => false, sumsOf [R86q, R87q, R114q, R105q]⟩
def I115_0q : Spec := ⟨[(3, .c (.lit (.ptr 1001000 0))), (8, .c (.lit (.osl 1001001 none))), (9, .c (.lit (.osl 1001002 none))), (10, .c (.int .i64))], [.box true [.dat false y3q, .dat false (.sl (.int .i64)), .dat false (.int .i64), .dat false (.sl (.int .i64))], .arr true y7q, .arr true (.int .i64)], [(9, none, (.int .i64), false)]⟩
def X0_115_0q : Spec := ⟨[(3, .c (.lit (.ptr 1001000 0))), (8, .c (.lit (.osl 1001001 none))), (9, .c (.lit (.osl 1001002 none)))], [.box true [.dat false y3q, .dat false (.sl (.int .i64)), .dat false (.int .i64), .dat false (.sl (.int .i64))], .arr true y7q, .arr true (.int .i64)], []⟩
def O115_0q : List (Ex × Spec) := [(.exit 0, X0_115_0q)]
def c115_0q (f : giroref20_Most_L0T) (d : I115_0q.den) : Option giroref20_Most_L0X := f d.1.2.2.2.1.1 d.2.1.1 d.2.1.2.1 d.2.1.2.2.1 d.2.1.2.2.2.1 d.2.2.1 d.2.2.2.1
def T115_0q : OutD O115_0q → giroref20_Most_L0X := fun d => (d.2.1.1, d.2.1.2.1, d.2.1.2.2.1, d.2.1.2.2.2.1, d.2.2.1, d.2.2.2.1)
def e115_0q (base : Nat) (x : giroref20_Most_L0X) (R : Type) (K : Ex → St → Option R) : Option R := K (.exit 0) (stOf base X0_115_0q (((), (), (), ()), ((x.1, x.2.1, x.2.2.1, x.2.2.2.1, ()), x.2.2.2.2.1, x.2.2.2.2.2, ())))
def L115_0q : LoopSum := ⟨I115_0q, O115_0q, giroref20_Most_L0X, fun k d => c115_0q (giroref20_Most_L0 k k) d, e115_0q⟩
def I115_1q : Spec := ⟨[(3, .c (.lit (.ptr 1001000 0))), (8, .c (.lit (.osl 1001001 none))), (9, .c (.lit (.osl 1001002 none))), (11, .c (.int .i64)), (12, .c (.lit (.osl 1001003 none))), (13, .c (.int .i64))], [.box true [.dat false y3q, .dat false (.sl (.int .i64)), .dat false (.int .i64), .dat false (.sl (.int .i64))], .arr true y7q, .arr true (.int .i64), .arr true (.int .i64)], []⟩
def X0_115_1q : Spec := ⟨[(3, .c (.lit (.ptr 1001000 0))), (8, .c (.lit (.osl 1001001 none))), (9, .c (.lit (.osl 1001002 none))), (11, .c (.int .i64))], [.box true [.dat false y3q, .dat false (.sl (.int .i64)), .dat false (.int .i64), .dat false (.sl (.int .i64))], .arr true y7q, .arr true (.int .i64)], []⟩
def O115_1q : List (Ex × Spec) := [(.exit 4, X0_115_1q)]
def c115_1q (f : giroref20_Most_L2T) (d : I115_1q.den) : Option giroref20_Most_L2X := f d.1.2.2.2.1.1 d.1.2.2.2.2.2.1.1 d.2.1.1 d.2.1.2.1 d.2.1.2.2.1 d.2.1.2.2.2.1 d.2.2.1 d.2.2.2.1 d.2.2.2.2.1
def T115_1q : OutD O115_1q → giroref20_Most_L2X := fun d => (d.1.2.2.2.1.1, d.2.1.1, d.2.1.2.1, d.2.1.2.2.1, d.2.1.2.2.2.1, d.2.2.1, d.2.2.2.1)
def e115_1q (base : Nat) (x : giroref20_Most_L2X) (R : Type) (K : Ex → St → Option R) : Option R := K (.exit 4) (stOf base X0_115_1q (((), (), (), (x.1, ()), ()), ((x.2.1, x.2.2.1, x.2.2.2.1, x.2.2.2.2.1, ()), x.2.2.2.2.2.1, x.2.2.2.2.2.2, ())))
def L115_1q : LoopSum := ⟨I115_1q, O115_1q, giroref20_Most_L2X, fun k d => c115_1q (giroref20_Most_L2 k k) d, e115_1q⟩
def I115_2q : Spec := ⟨[(3, .c (.lit (.ptr 1001000 0))), (8, .c (.lit (.osl 1001001 none))), (9, .c (.lit (.osl 1001002 none))), (11, .c (.int .i64))], [.box true [.dat false y3q, .dat false (.sl (.int .i64)), .dat false (.int .i64), .dat false (.sl (.int .i64))], .arr true y7q, .arr true (.int .i64)], []⟩
def X0_115_2q : Spec := ⟨[(6, .c (.lit (.osl 1001000 none))), (7, .c (.int .i64))], [.arr true (.int .i64)], []⟩
def O115_2q : List (Ex × Spec) := [(.ret, X0_115_2q)]
def c115_2q (f : giroref20_Most_L1T) (d : I115_2q.den) : Option (Int × (List Int)) := f d.1.2.2.2.1.1 d.2.1.1 d.2.1.2.1 d.2.1.2.2.1 d.2.1.2.2.2.1 d.2.2.1 d.2.2.2.1
def T115_2q : OutD O115_2q → (Int × (List Int)) := fun d => (d.1.2.1.1, d.2.1)
def e115_2q (base : Nat) (x : (Int × (List Int))) (R : Type) (K : Ex → St → Option R) : Option R := K .ret (stOf base X0_115_2q (((), (x.1, ()), ()), (x.2, ())))
def L115_2q : LoopSum := ⟨I115_2q, O115_2q, (Int × (List Int)), fun k d => c115_2q (giroref20_Most_L1 k k) d, e115_2q⟩
def A115q : Notes := ⟨[], [(4, L115_0q), (13, L115_1q), (9, L115_2q)]⟩
theorem B115q : EnvB E115q := env_n mixed_orders ⟨F86q, F87q, F114q, F105q, trivial⟩
theorem st115_0q (k : Nat) (rec : giroref20_Most_L0T) (d : I115_0q.den) : c115_0q (giroref20_Most_L0b k rec) d = evC E115q A115q k 1000 0 58 (loopAt (bodyOf Proofs.Tryz.f47) 0) (stOf (1000 + loopBase) I115_0q d) (roundK 1000 I115_0q O115_0q T115_0q (c115_0q rec)) := by
  obtain ⟨⟨_, _, _, ⟨_, _⟩, _⟩, ⟨⟨_, _, _, _, _⟩, _, _, _⟩⟩ := d
  kernel_rfl
theorem lk115_0q : LoopOK Proofs.Tryz.prog 1000 0 58 (loopAt (bodyOf Proofs.Tryz.f47) 0) L115_0q :=
  loop_b (A := A115q) (inS := I115_0q) (outs := O115_0q) B115q (loopsOK_none (by kernel_rfl)) T115_0q e115_0q (fun _ _ _ => rfl) (fun k n d => c115_0q (giroref20_Most_L0 k n) d) (fun _ _ => rfl) (fun k n d => st115_0q k (giroref20_Most_L0 k n) d)
theorem st115_1q (k : Nat) (rec : giroref20_Most_L2T) (d : I115_1q.den) : c115_1q (giroref20_Most_L2b k rec) d = evC E115q A115q k 1000 0 58 (loopAt (loopAt (bodyOf Proofs.Tryz.f47) 1) 0) (stOf (1000 + loopBase) I115_1q d) (roundK 1000 I115_1q O115_1q T115_1q (c115_1q rec)) := by
  obtain ⟨⟨_, _, _, ⟨_, _⟩, _, ⟨_, _⟩, _⟩, ⟨⟨_, _, _, _, _⟩, _, _, _, _⟩⟩ := d
  kernel_rfl
theorem lk115_1q : LoopOK Proofs.Tryz.prog 1000 0 58 (loopAt (loopAt (bodyOf Proofs.Tryz.f47) 1) 0) L115_1q :=
  loop_b (A := A115q) (inS := I115_1q) (outs := O115_1q) B115q (loopsOK_none (by kernel_rfl)) T115_1q e115_1q (fun _ _ _ => rfl) (fun k n d => c115_1q (giroref20_Most_L2 k n) d) (fun _ _ => rfl) (fun k n d => st115_1q k (giroref20_Most_L2 k n) d)
theorem st115_2q (k : Nat) (rec : giroref20_Most_L1T) (d : I115_2q.den) : c115_2q (giroref20_Most_L1b k rec) d = evC E115q A115q k 1000 0 58 (loopAt (bodyOf Proofs.Tryz.f47) 1) (stOf (1000 + loopBase) I115_2q d) (roundK 1000 I115_2q O115_2q T115_2q (c115_2q rec)) := by
  obtain ⟨⟨_, _, _, ⟨_, _⟩, _⟩, ⟨⟨_, _, _, _, _⟩, _, _, _⟩⟩ := d
  kernel_rfl
theorem lk115_2q : LoopOK Proofs.Tryz.prog 1000 0 58 (loopAt (bodyOf Proofs.Tryz.f47) 1) L115_2q :=
  loop_b (A := A115q) (inS := I115_2q) (outs := O115_2q) B115q (loopsOK_of (n := 1) (by kernel_rfl) fun i hi => match i, hi with | 0, _ => ⟨L115_1q, by kernel_rfl, lk115_1q⟩ | i + 1, hi => absurd hi (by omega)) T115_2q e115_2q (fun _ _ _ => rfl) (fun k n d => c115_2q (giroref20_Most_L1 k n) d) (fun _ _ => rfl) (fun k n d => st115_2q k (giroref20_Most_L1 k n) d)
def as115q : List AS := [.agg [.dat false y3q, .dat false (.sl (.int .i64)), .dat false (.int .i64), .dat false (.sl (.int .i64))], .c (.dat false y7q), .c (.int .i64)]
def rs115q : RS := .tup [(false, [.own (.int .i64)]), (false, [.int .i64])]
def pk115q : (List Int) × Int → RL rs115q.cells := fun x => (x.1, x.2, ())
def up115q : RL rs115q.cells → (List Int) × Int := fun d => (d.1, d.2.1)
def s115q (k : Nat) (d : AD as115q) := giroref20_Most k d.1 d.2.1 d.2.2.1 d.2.2.2.1 d.2.2.2.2.1 d.2.2.2.2.2.1
def R115q : Nat × Entry := (47, fun k nm args h => entry as115q rs115q (s115q k) pk115q nm args h)
theorem ev115q (k : Nat) (d : AD as115q) : evF E115q A115q k 1000 0 Proofs.Tryz.f47 (absArgs as115q d).1 (absArgs as115q d).2 (outM rs115q up115q) = s115q k d := by
  obtain ⟨_, _, _, _, _, _, _⟩ := d
  kernel_rfl
theorem F115q : FnOK Proofs.Tryz.prog R115q := fn_b (E := E115q) (A := A115q) (na := 0) (fn := Proofs.Tryz.f47) (S := s115q) (unpack := up115q) B115q (by kernel_rfl) (loopsOK_of (n := 2) (by kernel_rfl) fun i hi => match i, hi with | 0, _ => ⟨L115_0q, by kernel_rfl, lk115_0q⟩ | 1, _ => ⟨L115_2q, by kernel_rfl, lk115_2q⟩ | i + 2, hi => absurd hi (by omega)) (by kernel_rfl) (by kernel_rfl) (fun _ => rfl) ev115q

/-! ### giro/giroref20.Run -/
noncomputable def E116q : Env := ⟨Proofs.Tryz.prog, fun _ => false, sumsOf [R115q, R86q, R114q, R102q, R109q]⟩
def I116_0q : Spec := ⟨[(1, .c (.dat true y7q)), (6, .c (.lit (.ptr 1001000 0))), (11, .c (.lit (.osl 1001001 none))), (12, .c (.lit (.ptr 1001002 0))), (14, .c (.int .i64))], [.box true [.lit .nsl, .lit .nsl, .lit .nsl, .lit .nsl], .arr true y7q, .box true [.dat true y3q, .dat true (.sl (.int .i64)), .dat true (.int .i64), .dat true (.sl (.int .i64))]], []⟩
def X0_116_0q : Spec := ⟨[(1, .c (.dat true y7q)), (6, .c (.lit (.ptr 1001000 0))), (11, .c (.lit (.osl 1001001 none))), (12, .c (.lit (.ptr 1001002 0)))], [.box true [.lit .nsl, .lit .nsl, .lit .nsl, .lit .nsl], .arr true y7q, .box true [.dat true y3q, .dat true (.sl (.int .i64)), .dat true (.int .i64), .dat true (.sl (.int .i64))]], []⟩
def O116_0q : List (Ex × Spec) := [(.exit 0, X0_116_0q)]
def c116_0q (f : giroref20_Run_L0T) (d : I116_0q.den) : Option giroref20_Run_L0X := f d.1.1.1 d.1.2.2.2.2.1.1 d.2.2.1 d.2.2.2.1.1 d.2.2.2.1.2.1 d.2.2.2.1.2.2.1 d.2.2.2.1.2.2.2.1
def T116_0q : OutD O116_0q → giroref20_Run_L0X := fun d => (d.1.1.1, d.2.2.1, d.2.2.2.1.1, d.2.2.2.1.2.1, d.2.2.2.1.2.2.1, d.2.2.2.1.2.2.2.1)
def e116_0q (base : Nat) (x : giroref20_Run_L0X) (R : Type) (K : Ex → St → Option R) : Option R := K (.exit 0) (stOf base X0_116_0q (((x.1, ()), (), (), (), ()), ((), x.2.1, (x.2.2.1, x.2.2.2.1, x.2.2.2.2.1, x.2.2.2.2.2, ()), ())))
def L116_0q : LoopSum := ⟨I116_0q, O116_0q, giroref20_Run_L0X, fun k d => c116_0q (giroref20_Run_L0 k k) d, e116_0q⟩
def A116q : Notes := ⟨[], [(7, L116_0q)]⟩
theorem B116q : EnvB E116q := env_n mixed_orders ⟨F115q, F86q, F114q, F102q, F109q, trivial⟩
theorem st116_0q (k : Nat) (rec : giroref20_Run_L0T) (d : I116_0q.den) : c116_0q (giroref20_Run_L0b k rec) d = evC E116q A116q k 1000 0 57 (loopAt (bodyOf Proofs.Tryz.f21) 0) (stOf (1000 + loopBase) I116_0q d) (roundK 1000 I116_0q O116_0q T116_0q (c116_0q rec)) := by
  obtain ⟨⟨⟨_, _⟩, _, _, _, ⟨_, _⟩, _⟩, ⟨_, _, ⟨_, _, _, _, _⟩, _⟩⟩ := d
  kernel_rfl
theorem lk116_0q : LoopOK Proofs.Tryz.prog 1000 0 57 (loopAt (bodyOf Proofs.Tryz.f21) 0) L116_0q :=
  loop_b (A := A116q) (inS := I116_0q) (outs := O116_0q) B116q (loopsOK_none (by kernel_rfl)) T116_0q e116_0q (fun _ _ _ => rfl) (fun k n d => c116_0q (giroref20_Run_L0 k n) d) (fun _ _ => rfl) (fun k n d => st116_0q k (giroref20_Run_L0 k n) d)
def as116q : List AS := [.agg [.dat true y3q, .dat true (.sl (.int .i64)), .dat true (.int .i64), .dat true (.sl (.int .i64))], .c (.dat true y7q), .c (.int .i64)]
def rs116q : RS := .tup [(true, [.fro y3q, .fro (.sl (.int .i64)), .fro (.int .i64), .fro (.sl (.int .i64))]), (false, [.fro y7q]), (false, [.own y7q])]
def pk116q : (List K2q) × (List (List Int)) × (List Int) × (List (List Int)) × (List K1q) × (List K1q) → RL rs116q.cells := fun x => (x.1, x.2.1, x.2.2.1, x.2.2.2.1, x.2.2.2.2.1, x.2.2.2.2.2, ())
def up116q : RL rs116q.cells → (List K2q) × (List (List Int)) × (List Int) × (List (List Int)) × (List K1q) × (List K1q) := fun d => (d.1, d.2.1, d.2.2.1, d.2.2.2.1, d.2.2.2.2.1, d.2.2.2.2.2.1)
def s116q (k : Nat) (d : AD as116q) := giroref20_Run k d.1 d.2.1 d.2.2.1 d.2.2.2.1 d.2.2.2.2.1 d.2.2.2.2.2.1
def R116q : Nat × Entry := (21, fun k nm args h => entry as116q rs116q (s116q k) pk116q nm args h)
theorem ev116q (k : Nat) (d : AD as116q) : evF E116q A116q k 1000 0 Proofs.Tryz.f21 (absArgs as116q d).1 (absArgs as116q d).2 (outM rs116q up116q) = s116q k d := by
  obtain ⟨_, _, _, _, _, _, _⟩ := d
  kernel_rfl
theorem F116q : FnOK Proofs.Tryz.prog R116q := fn_b (E := E116q) (A := A116q) (na := 0) (fn := Proofs.Tryz.f21) (S := s116q) (unpack := up116q) B116q (by kernel_rfl) (loopsOK_of (n := 1) (by kernel_rfl) fun i hi => match i, hi with | 0, _ => ⟨L116_0q, by kernel_rfl, lk116_0q⟩ | i + 1, hi => absurd hi (by omega)) (by kernel_rfl) (by kernel_rfl) (fun _ => rfl) ev116q

/-! ### giro/giroref21.Run -/
noncomputable def E117q : Env := ⟨Proofs.Tryz.prog, fun _ => false, sumsOf [R113q, R116q]⟩
def A117q : Notes := ⟨[], []⟩
theorem B117q : EnvB E117q := env_n mixed_orders ⟨F113q, F116q, trivial⟩
def as117q : List AS := [.agg [.dat true y3q, .dat true (.sl (.int .i64)), .dat true (.int .i64), .dat true (.sl (.int .i64))], .c (.dat true y7q), .c (.int .i64), .c (.bool)]
def rs117q : RS := .tup [(true, [.fro y3q, .fro (.sl (.int .i64)), .fro (.int .i64), .fro (.sl (.int .i64))]), (false, [.fro y7q]), (false, [.own y7q])]
def pk117q : (List K2q) × (List (List Int)) × (List Int) × (List (List Int)) × (List K1q) × (List K1q) → RL rs117q.cells := fun x => (x.1, x.2.1, x.2.2.1, x.2.2.2.1, x.2.2.2.2.1, x.2.2.2.2.2, ())
def up117q : RL rs117q.cells → (List K2q) × (List (List Int)) × (List Int) × (List (List Int)) × (List K1q) × (List K1q) := fun d => (d.1, d.2.1, d.2.2.1, d.2.2.2.1, d.2.2.2.2.1, d.2.2.2.2.2.1)
def s117q (k : Nat) (d : AD as117q) := giroref21_Run k d.1 d.2.1 d.2.2.1 d.2.2.2.1 d.2.2.2.2.1 d.2.2.2.2.2.1 d.2.2.2.2.2.2.1
def R117q : Nat × Entry := (8, fun k nm args h => entry as117q rs117q (s117q k) pk117q nm args h)
theorem ev117q (k : Nat) (d : AD as117q) : evF E117q A117q k 1000 0 Proofs.Tryz.f8 (absArgs as117q d).1 (absArgs as117q d).2 (outM rs117q up117q) = s117q k d := by
  obtain ⟨_, _, _, _, _, _, _, _⟩ := d
  kernel_rfl
theorem F117q : FnOK Proofs.Tryz.prog R117q := fn_b (E := E117q) (A := A117q) (na := 0) (fn := Proofs.Tryz.f8) (S := s117q) (unpack := up117q) B117q (by kernel_rfl) (loopsOK_none (by kernel_rfl)) (by kernel_rfl) (by kernel_rfl) (fun _ => rfl) ev117q

/-! ### giro/giroref2.Same -/
noncomputable def E118q : Env := ⟨Proofs.Tryz.prog, fun _ => false, sumsOf []⟩
def I118_0q : Spec := ⟨[(0, .c (.dat false (.int .i64))), (1, .c (.dat false (.int .i64))), (5, .c (.int .i64))], [], []⟩
def X0_118_0q : Spec := ⟨[], [], []⟩
def X1_118_0q : Spec := ⟨[(4, .c (.bool))], [], []⟩
def O118_0q : List (Ex × Spec) := [(.exit 0, X0_118_0q), (.ret, X1_118_0q)]
def c118_0q (f : giroref2_Same_L0T) (d : I118_0q.den) : Option (Unit ⊕ Bool) := f d.1.1.1 d.1.2.1.1 d.1.2.2.1.1
def T118_0q : OutD O118_0q → (Unit ⊕ Bool)
 | .inl d => .inl ()
 | .inr d => .inr d.1.1.1
def e118_0q (base : Nat) (x : (Unit ⊕ Bool)) (R : Type) (K : Ex → St → Option R) : Option R := match x with
 | .inl x => K (.exit 0) (stOf base X0_118_0q ((), ()))
 | .inr x => K .ret (stOf base X1_118_0q (((x, ()), ()), ()))
def L118_0q : LoopSum := ⟨I118_0q, O118_0q, (Unit ⊕ Bool), fun k d => c118_0q (giroref2_Same_L0 k k) d, e118_0q⟩
def A118q : Notes := ⟨[], [(4, L118_0q)]⟩
theorem B118q : EnvB E118q := env_n mixed_orders trivial
theorem st118_0q (k : Nat) (rec : giroref2_Same_L0T) (d : I118_0q.den) : c118_0q (giroref2_Same_L0b k rec) d = evC E118q A118q k 1000 0 26 (loopAt (bodyOf Proofs.Tryz.f53) 0) (stOf (1000 + loopBase) I118_0q d) (roundK 1000 I118_0q O118_0q T118_0q (c118_0q rec)) := by
  obtain ⟨⟨⟨_, _⟩, ⟨_, _⟩, ⟨_, _⟩, _⟩, _⟩ := d
  kernel_rfl
theorem lk118_0q : LoopOK Proofs.Tryz.prog 1000 0 26 (loopAt (bodyOf Proofs.Tryz.f53) 0) L118_0q :=
  loop_b (A := A118q) (inS := I118_0q) (outs := O118_0q) B118q (loopsOK_none (by kernel_rfl)) T118_0q e118_0q (by intro o R K; rcases o with o | o <;> rfl) (fun k n d => c118_0q (giroref2_Same_L0 k n) d) (fun _ _ => rfl) (fun k n d => st118_0q k (giroref2_Same_L0 k n) d)
def as118q : List AS := [.c (.dat false (.int .i64)), .c (.dat false (.int .i64))]
def rs118q : RS := .c (.bool)
def pk118q : Bool → RL rs118q.cells := fun x => (x, ())
def up118q : RL rs118q.cells → Bool := fun d => d.1
def s118q (k : Nat) (d : AD as118q) := giroref2_Same k d.1 d.2.1
def R118q : Nat × Entry := (53, fun k nm args h => entry as118q rs118q (s118q k) pk118q nm args h)
theorem ev118q (k : Nat) (d : AD as118q) : evF E118q A118q k 1000 0 Proofs.Tryz.f53 (absArgs as118q d).1 (absArgs as118q d).2 (outM rs118q up118q) = s118q k d := by
  obtain ⟨_, _, _⟩ := d
  kernel_rfl
theorem F118q : FnOK Proofs.Tryz.prog R118q := fn_b (E := E118q) (A := A118q) (na := 0) (fn := Proofs.Tryz.f53) (S := s118q) (unpack := up118q) B118q (by kernel_rfl) (loopsOK_of (n := 1) (by kernel_rfl) fun i hi => match i, hi with | 0, _ => ⟨L118_0q, by kernel_rfl, lk118_0q⟩ | i + 1, hi => absurd hi (by omega)) (by kernel_rfl) (by kernel_rfl) (fun _ => rfl) ev118q

/-! ### giro/giroref10.Rows -/
noncomputable def E119q : Env := ⟨Proofs.Tryz.prog, fun _ => false, sumsOf [R118q]⟩
def I119_0q : Spec := ⟨[(0, .c (.dat false (.sl (.int .i64)))), (1, .c (.dat false (.sl (.int .i64)))), (5, .c (.int .i64))], [], []⟩
def X0_119_0q : Spec := ⟨[], [], []⟩
def X1_119_0q : Spec := ⟨[(4, .c (.bool))], [], []⟩
def O119_0q : List (Ex × Spec) := [(.exit 0, X0_119_0q), (.ret, X1_119_0q)]
def c119_0q (f : giroref10_Rows_L0T) (d : I119_0q.den) : Option (Unit ⊕ Bool) := f d.1.1.1 d.1.2.1.1 d.1.2.2.1.1
def T119_0q : OutD O119_0q → (Unit ⊕ Bool)
 | .inl d => .inl ()
 | .inr d => .inr d.1.1.1
def e119_0q (base : Nat) (x : (Unit ⊕ Bool)) (R : Type) (K : Ex → St → Option R) : Option R := match x with
 | .inl x => K (.exit 0) (stOf base X0_119_0q ((), ()))
 | .inr x => K .ret (stOf base X1_119_0q (((x, ()), ()), ()))
def L119_0q : LoopSum := ⟨I119_0q, O119_0q, (Unit ⊕ Bool), fun k d => c119_0q (giroref10_Rows_L0 k k) d, e119_0q⟩
def A119q : Notes := ⟨[], [(4, L119_0q)]⟩
theorem B119q : EnvB E119q := env_n mixed_orders ⟨F118q, trivial⟩
theorem st119_0q (k : Nat) (rec : giroref10_Rows_L0T) (d : I119_0q.den) : c119_0q (giroref10_Rows_L0b k rec) d = evC E119q A119q k 1000 0 27 (loopAt (bodyOf Proofs.Tryz.f52) 0) (stOf (1000 + loopBase) I119_0q d) (roundK 1000 I119_0q O119_0q T119_0q (c119_0q rec)) := by
  obtain ⟨⟨⟨_, _⟩, ⟨_, _⟩, ⟨_, _⟩, _⟩, _⟩ := d
  kernel_rfl
theorem lk119_0q : LoopOK Proofs.Tryz.prog 1000 0 27 (loopAt (bodyOf Proofs.Tryz.f52) 0) L119_0q :=
  loop_b (A := A119q) (inS := I119_0q) (outs := O119_0q) B119q (loopsOK_none (by kernel_rfl)) T119_0q e119_0q (by intro o R K; rcases o with o | o <;> rfl) (fun k n d => c119_0q (giroref10_Rows_L0 k n) d) (fun _ _ => rfl) (fun k n d => st119_0q k (giroref10_Rows_L0 k n) d)
def as119q : List AS := [.c (.dat false (.sl (.int .i64))), .c (.dat false (.sl (.int .i64)))]
def rs119q : RS := .c (.bool)
def pk119q : Bool → RL rs119q.cells := fun x => (x, ())
def up119q : RL rs119q.cells → Bool := fun d => d.1
def s119q (k : Nat) (d : AD as119q) := giroref10_Rows k d.1 d.2.1
def R119q : Nat × Entry := (52, fun k nm args h => entry as119q rs119q (s119q k) pk119q nm args h)
theorem ev119q (k : Nat) (d : AD as119q) : evF E119q A119q k 1000 0 Proofs.Tryz.f52 (absArgs as119q d).1 (absArgs as119q d).2 (outM rs119q up119q) = s119q k d := by
  obtain ⟨_, _, _⟩ := d
  kernel_rfl
theorem F119q : FnOK Proofs.Tryz.prog R119q := fn_b (E := E119q) (A := A119q) (na := 0) (fn := Proofs.Tryz.f52) (S := s119q) (unpack := up119q) B119q (by kernel_rfl) (loopsOK_of (n := 1) (by kernel_rfl) fun i hi => match i, hi with | 0, _ => ⟨L119_0q, by kernel_rfl, lk119_0q⟩ | i + 1, hi => absurd hi (by omega)) (by kernel_rfl) (by kernel_rfl) (fun _ => rfl) ev119q

/-! ### giro/giroref10.Same -/
noncomputable def E120q : Env := ⟨Proofs.Tryz.prog, fun t => [47].any (Nat.beq t), sumsOf [R119q, R118q]⟩
def I120_0q : Spec := ⟨[(2, .c (.lit (.ptr 1001000 0))), (3, .c (.lit (.ptr 1001001 0))), (5, .c (.int .i64))], [.box true [.dat false y3q, .dat false (.sl (.int .i64)), .dat false (.int .i64), .dat false (.sl (.int .i64))], .box true [.dat false y3q, .dat false (.sl (.int .i64)), .dat false (.int .i64), .dat false (.sl (.int .i64))]], []⟩
def X0_120_0q : Spec := ⟨[], [], []⟩
def X1_120_0q : Spec := ⟨[(4, .c (.bool))], [], []⟩
def O120_0q : List (Ex × Spec) := [(.exit 0, X0_120_0q), (.ret, X1_120_0q)]
def c120_0q (f : giroref10_Same_L0T) (d : I120_0q.den) : Option (Unit ⊕ Bool) := f d.1.2.2.1.1 d.2.1.1 d.2.1.2.1 d.2.1.2.2.1 d.2.1.2.2.2.1 d.2.2.1.1 d.2.2.1.2.1 d.2.2.1.2.2.1 d.2.2.1.2.2.2.1
def T120_0q : OutD O120_0q → (Unit ⊕ Bool)
 | .inl d => .inl ()
 | .inr d => .inr d.1.1.1
def e120_0q (base : Nat) (x : (Unit ⊕ Bool)) (R : Type) (K : Ex → St → Option R) : Option R := match x with
 | .inl x => K (.exit 0) (stOf base X0_120_0q ((), ()))
 | .inr x => K .ret (stOf base X1_120_0q (((x, ()), ()), ()))
def L120_0q : LoopSum := ⟨I120_0q, O120_0q, (Unit ⊕ Bool), fun k d => c120_0q (giroref10_Same_L0 k k) d, e120_0q⟩
def A120q : Notes := ⟨[], [(4, L120_0q)]⟩
theorem B120q : EnvB E120q := env_b (eqOK_flat (fun t h => eqT_mem (p := fun t => Proofs.Tryz.prog.keyTypeAt 8 t && !Proofs.Tryz.prog.eqGuardType Proofs.Tryz.prog.depth t) (l := [47]) (List.forall_mem_cons.2 ⟨by kernel_rfl, List.forall_mem_nil _⟩) t h)) mixed_orders ⟨F119q, F118q, trivial⟩
theorem st120_0q (k : Nat) (rec : giroref10_Same_L0T) (d : I120_0q.den) : c120_0q (giroref10_Same_L0b k rec) d = evC E120q A120q k 1000 0 55 (loopAt (bodyOf Proofs.Tryz.f22) 0) (stOf (1000 + loopBase) I120_0q d) (roundK 1000 I120_0q O120_0q T120_0q (c120_0q rec)) := by
  obtain ⟨⟨_, _, ⟨_, _⟩, _⟩, ⟨⟨_, _, _, _, _⟩, ⟨_, _, _, _, _⟩, _⟩⟩ := d
  kernel_rfl
theorem lk120_0q : LoopOK Proofs.Tryz.prog 1000 0 55 (loopAt (bodyOf Proofs.Tryz.f22) 0) L120_0q :=
  loop_b (A := A120q) (inS := I120_0q) (outs := O120_0q) B120q (loopsOK_none (by kernel_rfl)) T120_0q e120_0q (by intro o R K; rcases o with o | o <;> rfl) (fun k n d => c120_0q (giroref10_Same_L0 k n) d) (fun _ _ => rfl) (fun k n d => st120_0q k (giroref10_Same_L0 k n) d)
def as120q : List AS := [.agg [.dat false y3q, .dat false (.sl (.int .i64)), .dat false (.int .i64), .dat false (.sl (.int .i64))], .agg [.dat false y3q, .dat false (.sl (.int .i64)), .dat false (.int .i64), .dat false (.sl (.int .i64))]]
def rs120q : RS := .c (.bool)
def pk120q : Bool → RL rs120q.cells := fun x => (x, ())
def up120q : RL rs120q.cells → Bool := fun d => d.1
def s120q (k : Nat) (d : AD as120q) := giroref10_Same k d.1 d.2.1 d.2.2.1 d.2.2.2.1 d.2.2.2.2.1 d.2.2.2.2.2.1 d.2.2.2.2.2.2.1 d.2.2.2.2.2.2.2.1
def R120q : Nat × Entry := (22, fun k nm args h => entry as120q rs120q (s120q k) pk120q nm args h)
theorem ev120q (k : Nat) (d : AD as120q) : evF E120q A120q k 1000 0 Proofs.Tryz.f22 (absArgs as120q d).1 (absArgs as120q d).2 (outM rs120q up120q) = s120q k d := by
  obtain ⟨_, _, _, _, _, _, _, _, _⟩ := d
  kernel_rfl
theorem F120q : FnOK Proofs.Tryz.prog R120q := fn_b (E := E120q) (A := A120q) (na := 0) (fn := Proofs.Tryz.f22) (S := s120q) (unpack := up120q) B120q (by kernel_rfl) (loopsOK_of (n := 1) (by kernel_rfl) fun i hi => match i, hi with | 0, _ => ⟨L120_0q, by kernel_rfl, lk120_0q⟩ | i + 1, hi => absurd hi (by omega)) (by kernel_rfl) (by kernel_rfl) (fun _ => rfl) ev120q

/-! ### giro/giroref11.Same -/
noncomputable def E121q : Env := ⟨Proofs.Tryz.prog, fun t => [42].any (Nat.beq t), sumsOf []⟩
def I121_0q : Spec := ⟨[(0, .c (.dat false y7q)), (1, .c (.dat false y7q)), (5, .c (.int .i64))], [], []⟩
def X0_121_0q : Spec := ⟨[], [], []⟩
def X1_121_0q : Spec := ⟨[(4, .c (.bool))], [], []⟩
def O121_0q : List (Ex × Spec) := [(.exit 0, X0_121_0q), (.ret, X1_121_0q)]
def c121_0q (f : giroref11_Same_L0T) (d : I121_0q.den) : Option (Unit ⊕ Bool) := f d.1.1.1 d.1.2.1.1 d.1.2.2.1.1
def T121_0q : OutD O121_0q → (Unit ⊕ Bool)
 | .inl d => .inl ()
 | .inr d => .inr d.1.1.1
def e121_0q (base : Nat) (x : (Unit ⊕ Bool)) (R : Type) (K : Ex → St → Option R) : Option R := match x with
 | .inl x => K (.exit 0) (stOf base X0_121_0q ((), ()))
 | .inr x => K .ret (stOf base X1_121_0q (((x, ()), ()), ()))
def L121_0q : LoopSum := ⟨I121_0q, O121_0q, (Unit ⊕ Bool), fun k d => c121_0q (giroref11_Same_L0 k k) d, e121_0q⟩
def A121q : Notes := ⟨[], [(4, L121_0q)]⟩
theorem B121q : EnvB E121q := env_b (eqOK_flat (fun t h => eqT_mem (p := fun t => Proofs.Tryz.prog.keyTypeAt 8 t && !Proofs.Tryz.prog.eqGuardType Proofs.Tryz.prog.depth t) (l := [42]) (List.forall_mem_cons.2 ⟨by kernel_rfl, List.forall_mem_nil _⟩) t h)) mixed_orders trivial
theorem st121_0q (k : Nat) (rec : giroref11_Same_L0T) (d : I121_0q.den) : c121_0q (giroref11_Same_L0b k rec) d = evC E121q A121q k 1000 0 26 (loopAt (bodyOf Proofs.Tryz.f23) 0) (stOf (1000 + loopBase) I121_0q d) (roundK 1000 I121_0q O121_0q T121_0q (c121_0q rec)) := by
  obtain ⟨⟨⟨_, _⟩, ⟨_, _⟩, ⟨_, _⟩, _⟩, _⟩ := d
  kernel_rfl
theorem lk121_0q : LoopOK Proofs.Tryz.prog 1000 0 26 (loopAt (bodyOf Proofs.Tryz.f23) 0) L121_0q :=
  loop_b (A := A121q) (inS := I121_0q) (outs := O121_0q) B121q (loopsOK_none (by kernel_rfl)) T121_0q e121_0q (by intro o R K; rcases o with o | o <;> rfl) (fun k n d => c121_0q (giroref11_Same_L0 k n) d) (fun _ _ => rfl) (fun k n d => st121_0q k (giroref11_Same_L0 k n) d)
def as121q : List AS := [.c (.dat false y7q), .c (.dat false y7q)]
def rs121q : RS := .c (.bool)
def pk121q : Bool → RL rs121q.cells := fun x => (x, ())
def up121q : RL rs121q.cells → Bool := fun d => d.1
def s121q (k : Nat) (d : AD as121q) := giroref11_Same k d.1 d.2.1
def R121q : Nat × Entry := (23, fun k nm args h => entry as121q rs121q (s121q k) pk121q nm args h)
theorem ev121q (k : Nat) (d : AD as121q) : evF E121q A121q k 1000 0 Proofs.Tryz.f23 (absArgs as121q d).1 (absArgs as121q d).2 (outM rs121q up121q) = s121q k d := by
  obtain ⟨_, _, _⟩ := d
  kernel_rfl
theorem F121q : FnOK Proofs.Tryz.prog R121q := fn_b (E := E121q) (A := A121q) (na := 0) (fn := Proofs.Tryz.f23) (S := s121q) (unpack := up121q) B121q (by kernel_rfl) (loopsOK_of (n := 1) (by kernel_rfl) fun i hi => match i, hi with | 0, _ => ⟨L121_0q, by kernel_rfl, lk121_0q⟩ | i + 1, hi => absurd hi (by omega)) (by kernel_rfl) (by kernel_rfl) (fun _ => rfl) ev121q

/-! ### giro/girolaw21.same -/
noncomputable def E122q : Env := ⟨Proofs.Tryz.prog, fun _ => false, sumsOf [R120q, R121q]⟩
def A122q : Notes := ⟨[], []⟩
theorem B122q : EnvB E122q := env_n mixed_orders ⟨F120q, F121q, trivial⟩
def as122q : List AS := [.agg [.dat false y3q, .dat false (.sl (.int .i64)), .dat false (.int .i64), .dat false (.sl (.int .i64))], .c (.dat false y7q), .c (.dat false y7q), .agg [.dat false y3q, .dat false (.sl (.int .i64)), .dat false (.int .i64), .dat false (.sl (.int .i64))], .c (.dat false y7q), .c (.dat false y7q)]
def rs122q : RS := .c (.bool)
def pk122q : Bool → RL rs122q.cells := fun x => (x, ())
def up122q : RL rs122q.cells → Bool := fun d => d.1
def s122q (k : Nat) (d : AD as122q) := girolaw21_same k d.1 d.2.1 d.2.2.1 d.2.2.2.1 d.2.2.2.2.1 d.2.2.2.2.2.1 d.2.2.2.2.2.2.1 d.2.2.2.2.2.2.2.1 d.2.2.2.2.2.2.2.2.1 d.2.2.2.2.2.2.2.2.2.1 d.2.2.2.2.2.2.2.2.2.2.1 d.2.2.2.2.2.2.2.2.2.2.2.1
def R122q : Nat × Entry := (9, fun k nm args h => entry as122q rs122q (s122q k) pk122q nm args h)
theorem ev122q (k : Nat) (d : AD as122q) : evF E122q A122q k 1000 0 Proofs.Tryz.f9 (absArgs as122q d).1 (absArgs as122q d).2 (outM rs122q up122q) = s122q k d := by
  obtain ⟨_, _, _, _, _, _, _, _, _, _, _, _, _⟩ := d
  kernel_rfl
theorem F122q : FnOK Proofs.Tryz.prog R122q := fn_b (E := E122q) (A := A122q) (na := 0) (fn := Proofs.Tryz.f9) (S := s122q) (unpack := up122q) B122q (by kernel_rfl) (loopsOK_none (by kernel_rfl)) (by kernel_rfl) (by kernel_rfl) (fun _ => rfl) ev122q

/-! ### giro/girolaw21.ring -/
noncomputable def E123q : Env := ⟨Proofs.Tryz.prog, fun _ => false, sumsOf []⟩
def I123_0q : Spec := ⟨[(0, .c (.int .i64)), (3, .c (.lit (.osl 1001000 none))), (4, .c (.int .i64))], [.arr true y7q], [(3, none, y7q, false)]⟩
def X0_123_0q : Spec := ⟨[(3, .c (.lit (.osl 1001000 none)))], [.arr true y7q], []⟩
def O123_0q : List (Ex × Spec) := [(.exit 0, X0_123_0q)]
def c123_0q (f : girolaw21_ring_L0T) (d : I123_0q.den) : Option girolaw21_ring_L0X := f d.1.1.1 d.1.2.2.1.1 d.2.1
def T123_0q : OutD O123_0q → girolaw21_ring_L0X := fun d => d.2.1
def e123_0q (base : Nat) (x : girolaw21_ring_L0X) (R : Type) (K : Ex → St → Option R) : Option R := K (.exit 0) (stOf base X0_123_0q (((), ()), (x, ())))
def L123_0q : LoopSum := ⟨I123_0q, O123_0q, girolaw21_ring_L0X, fun k d => c123_0q (girolaw21_ring_L0 k k) d, e123_0q⟩
def A123q : Notes := ⟨[], [(3, L123_0q)]⟩
theorem B123q : EnvB E123q := env_n mixed_orders trivial
theorem st123_0q (k : Nat) (rec : girolaw21_ring_L0T) (d : I123_0q.den) : c123_0q (girolaw21_ring_L0b k rec) d = evC E123q A123q k 1000 0 21 (loopAt (bodyOf Proofs.Tryz.f24) 0) (stOf (1000 + loopBase) I123_0q d) (roundK 1000 I123_0q O123_0q T123_0q (c123_0q rec)) := by
  obtain ⟨⟨⟨_, _⟩, _, ⟨_, _⟩, _⟩, ⟨_, _⟩⟩ := d
  kernel_rfl
theorem lk123_0q : LoopOK Proofs.Tryz.prog 1000 0 21 (loopAt (bodyOf Proofs.Tryz.f24) 0) L123_0q :=
  loop_b (A := A123q) (inS := I123_0q) (outs := O123_0q) B123q (loopsOK_none (by kernel_rfl)) T123_0q e123_0q (fun _ _ _ => rfl) (fun k n d => c123_0q (girolaw21_ring_L0 k n) d) (fun _ _ => rfl) (fun k n d => st123_0q k (girolaw21_ring_L0 k n) d)
def as123q : List AS := [.c (.int .i64)]
def rs123q : RS := .c (.own y7q)
def pk123q : List K1q → RL rs123q.cells := fun x => (x, ())
def up123q : RL rs123q.cells → List K1q := fun d => d.1
def s123q (k : Nat) (d : AD as123q) := girolaw21_ring k d.1
def R123q : Nat × Entry := (24, fun k nm args h => entry as123q rs123q (s123q k) pk123q nm args h)
theorem ev123q (k : Nat) (d : AD as123q) : evF E123q A123q k 1000 0 Proofs.Tryz.f24 (absArgs as123q d).1 (absArgs as123q d).2 (outM rs123q up123q) = s123q k d := by
  obtain ⟨_, _⟩ := d
  kernel_rfl
theorem F123q : FnOK Proofs.Tryz.prog R123q := fn_b (E := E123q) (A := A123q) (na := 0) (fn := Proofs.Tryz.f24) (S := s123q) (unpack := up123q) B123q (by kernel_rfl) (loopsOK_of (n := 1) (by kernel_rfl) fun i hi => match i, hi with | 0, _ => ⟨L123_0q, by kernel_rfl, lk123_0q⟩ | i + 1, hi => absurd hi (by omega)) (by kernel_rfl) (by kernel_rfl) (fun _ => rfl) ev123q

/-! ### giro/girolaw21.known -/
noncomputable def E124q : Env := ⟨Proofs.Tryz.prog, fun _ => false, sumsOf [R0q, R123q, R84q]⟩
def A124q : Notes := ⟨[], []⟩
theorem B124q : EnvB E124q := env_n mixed_orders ⟨F0q, F123q, F84q, trivial⟩
def as124q : List AS := []
def rs124q : RS := .c (.bool)
def pk124q : Bool → RL rs124q.cells := fun x => (x, ())
def up124q : RL rs124q.cells → Bool := fun d => d.1
def s124q (k : Nat) (d : AD as124q) := girolaw21_known k
def R124q : Nat × Entry := (10, fun k nm args h => entry as124q rs124q (s124q k) pk124q nm args h)
theorem ev124q (k : Nat) (d : AD as124q) : evF E124q A124q k 1000 0 Proofs.Tryz.f10 (absArgs as124q d).1 (absArgs as124q d).2 (outM rs124q up124q) = s124q k d := by
  kernel_rfl
theorem F124q : FnOK Proofs.Tryz.prog R124q := fn_b (E := E124q) (A := A124q) (na := 0) (fn := Proofs.Tryz.f10) (S := s124q) (unpack := up124q) B124q (by kernel_rfl) (loopsOK_none (by kernel_rfl)) (by kernel_rfl) (by kernel_rfl) (fun _ => rfl) ev124q

/-! ### giro/girolaw21.SettleRuns -/
noncomputable def E_girolaw21_SettleRuns : Env := ⟨Proofs.Tryz.prog, fun _ => false, sumsOf [R0q, R6q, R84q, R117q, R122q, R124q]⟩
def A_girolaw21_SettleRuns : Notes := ⟨[], []⟩
theorem B_girolaw21_SettleRuns : EnvB E_girolaw21_SettleRuns := env_n mixed_orders ⟨F0q, F6q, F84q, F117q, F122q, F124q, trivial⟩
def as_girolaw21_SettleRuns : List AS := [.c (.dat false (.int .i64)), .c (.int .i64), .c (.dat false y7q), .c (.int .i64), .c (.bool)]
def rs_girolaw21_SettleRuns : RS := .c (.bool)
def pk_girolaw21_SettleRuns : Bool → RL rs_girolaw21_SettleRuns.cells := fun x => (x, ())
def up_girolaw21_SettleRuns : RL rs_girolaw21_SettleRuns.cells → Bool := fun d => d.1
def s_girolaw21_SettleRuns (k : Nat) (d : AD as_girolaw21_SettleRuns) := girolaw21_SettleRuns k d.1 d.2.1 d.2.2.1 d.2.2.2.1 d.2.2.2.2.1
def R_girolaw21_SettleRuns : Nat × Entry := (3, fun k nm args h => entry as_girolaw21_SettleRuns rs_girolaw21_SettleRuns (s_girolaw21_SettleRuns k) pk_girolaw21_SettleRuns nm args h)
theorem girolaw21_SettleRuns_ev (k : Nat) (d : AD as_girolaw21_SettleRuns) : evF E_girolaw21_SettleRuns A_girolaw21_SettleRuns k 1000 0 Proofs.Tryz.f3 (absArgs as_girolaw21_SettleRuns d).1 (absArgs as_girolaw21_SettleRuns d).2 (outM rs_girolaw21_SettleRuns up_girolaw21_SettleRuns) = s_girolaw21_SettleRuns k d := by
  obtain ⟨_, _, _, _, _, _⟩ := d
  kernel_rfl
theorem F_girolaw21_SettleRuns : FnOK Proofs.Tryz.prog R_girolaw21_SettleRuns := fn_b (E := E_girolaw21_SettleRuns) (A := A_girolaw21_SettleRuns) (na := 0) (fn := Proofs.Tryz.f3) (S := s_girolaw21_SettleRuns) (unpack := up_girolaw21_SettleRuns) B_girolaw21_SettleRuns (by kernel_rfl) (loopsOK_none (by kernel_rfl)) (by kernel_rfl) (by kernel_rfl) (fun _ => rfl) girolaw21_SettleRuns_ev

end Go.Ab.Gi
