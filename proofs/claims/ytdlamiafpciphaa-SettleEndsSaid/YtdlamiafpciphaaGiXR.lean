/- The shallow functions are what the program does, printed (abprint.py). -/
import Derived.Test.YtdlamiafpciphaaGiXRa
set_option linter.unusedVariables false
set_option maxRecDepth 100000
namespace Go.Ab.Gi

/-! ### giro/settle.some -/
noncomputable def E124q : Env := ⟨Proofs.Try.prog, fun _ => false, sumsOf [R121q, R123q]⟩
def I124_0q : Spec := ⟨[(2, .c (.int .i64)), (6, .c (.lit (.ptr 1001000 0))), (7, .c (.dat true y7q)), (8, .c (.lit (.osl 1001001 none)))], [.box true [.dat true y3q, .dat true (.sl (.int .i64)), .dat true (.int .i64), .dat true (.sl (.int .i64))], .arr true y7q], [(8, none, y7q, false)]⟩
def X0_124_0q : Spec := ⟨[(6, .c (.lit (.ptr 1001000 0))), (7, .c (.dat true y7q)), (8, .c (.lit (.osl 1001001 none)))], [.box true [.dat true y3q, .dat true (.sl (.int .i64)), .dat true (.int .i64), .dat true (.sl (.int .i64))], .arr true y7q], []⟩
def O124_0q : List (Ex × Spec) := [(.ret, X0_124_0q)]
def c124_0q (f : settle_some_L0T) (d : I124_0q.den) : Option settle_some_L0X := f d.1.1.1 d.1.2.2.1.1 d.2.1.1 d.2.1.2.1 d.2.1.2.2.1 d.2.1.2.2.2.1 d.2.2.1
def T124_0q : OutD O124_0q → settle_some_L0X := fun d => (d.1.2.1.1, d.2.1.1, d.2.1.2.1, d.2.1.2.2.1, d.2.1.2.2.2.1, d.2.2.1)
def e124_0q (base : Nat) (x : settle_some_L0X) (R : Type) (K : Ex → St → Option R) : Option R := K .ret (stOf base X0_124_0q (((), (x.1, ()), (), ()), ((x.2.1, x.2.2.1, x.2.2.2.1, x.2.2.2.2.1, ()), x.2.2.2.2.2, ())))
def L124_0q : LoopSum := ⟨I124_0q, O124_0q, settle_some_L0X, fun k d => c124_0q (settle_some_L0 k k) d, e124_0q⟩
def A124q : Notes := ⟨[], [(2, L124_0q)]⟩
theorem B124q : EnvB E124q := env_n mixed_orders ⟨F121q, F123q, trivial⟩
theorem st124_0q (k : Nat) (rec : settle_some_L0T) (d : I124_0q.den) : c124_0q (settle_some_L0b k rec) d = evC E124q A124q k 1000 0 40 (loopAt (bodyOf Proofs.Try.f68) 0) (stOf (1000 + loopBase) I124_0q d) (roundK 1000 I124_0q O124_0q T124_0q (c124_0q rec)) := by
  obtain ⟨⟨⟨_, _⟩, _, ⟨_, _⟩, _, _⟩, ⟨⟨_, _, _, _, _⟩, _, _⟩⟩ := d
  kernel_rfl
theorem lk124_0q : LoopOK Proofs.Try.prog 1000 0 40 (loopAt (bodyOf Proofs.Try.f68) 0) L124_0q :=
  loop_b (A := A124q) (inS := I124_0q) (outs := O124_0q) B124q (loopsOK_none (by kernel_rfl)) T124_0q e124_0q (fun _ _ _ => rfl) (fun k n d => c124_0q (settle_some_L0 k n) d) (fun _ _ => rfl) (fun k n d => st124_0q k (settle_some_L0 k n) d)
def as124q : List AS := [.agg [.dat true y3q, .dat true (.sl (.int .i64)), .dat true (.int .i64), .dat true (.sl (.int .i64))], .c (.dat true y7q), .c (.int .i64)]
def rs124q : RS := .tup [(true, [.fro y3q, .fro (.sl (.int .i64)), .fro (.int .i64), .fro (.sl (.int .i64))]), (false, [.fro y7q]), (false, [.own y7q])]
def pk124q : (List K2q) × (List (List Int)) × (List Int) × (List (List Int)) × (List K1q) × (List K1q) → RL rs124q.cells := fun x => (x.1, x.2.1, x.2.2.1, x.2.2.2.1, x.2.2.2.2.1, x.2.2.2.2.2, ())
def up124q : RL rs124q.cells → (List K2q) × (List (List Int)) × (List Int) × (List (List Int)) × (List K1q) × (List K1q) := fun d => (d.1, d.2.1, d.2.2.1, d.2.2.2.1, d.2.2.2.2.1, d.2.2.2.2.2.1)
def s124q (k : Nat) (d : AD as124q) := settle_some k d.1 d.2.1 d.2.2.1 d.2.2.2.1 d.2.2.2.2.1 d.2.2.2.2.2.1
def R124q : Nat × Entry := (68, fun k nm args h => entry as124q rs124q (s124q k) pk124q nm args h)
theorem ev124q (k : Nat) (d : AD as124q) : evF E124q A124q k 1000 0 Proofs.Try.f68 (absArgs as124q d).1 (absArgs as124q d).2 (outM rs124q up124q) = s124q k d := by
  obtain ⟨_, _, _, _, _, _, _⟩ := d
  kernel_rfl
theorem F124q : FnOK Proofs.Try.prog R124q := fn_b (E := E124q) (A := A124q) (na := 0) (fn := Proofs.Try.f68) (S := s124q) (unpack := up124q) B124q (by kernel_rfl) (loopsOK_of (n := 1) (by kernel_rfl) fun i hi => match i, hi with | 0, _ => ⟨L124_0q, by kernel_rfl, lk124_0q⟩ | i + 1, hi => absurd hi (by omega)) (by kernel_rfl) (by kernel_rfl) (fun _ => rfl) ev124q

/-! ### giro/settle.Run -/
noncomputable def E125q : Env := ⟨Proofs.Try.prog, fun _ => false, sumsOf [R124q, R79q]⟩
def A125q : Notes := ⟨[], []⟩
theorem B125q : EnvB E125q := env_n mixed_orders ⟨F124q, F79q, trivial⟩
def as125q : List AS := [.agg [.dat true y3q, .dat true (.sl (.int .i64)), .dat true (.int .i64), .dat true (.sl (.int .i64))], .c (.dat true y7q), .c (.int .i64), .c (.bool)]
def rs125q : RS := .tup [(true, [.fro y3q, .fro (.sl (.int .i64)), .fro (.int .i64), .fro (.sl (.int .i64))]), (false, [.fro y7q]), (false, [.own y7q])]
def pk125q : (List K2q) × (List (List Int)) × (List Int) × (List (List Int)) × (List K1q) × (List K1q) → RL rs125q.cells := fun x => (x.1, x.2.1, x.2.2.1, x.2.2.2.1, x.2.2.2.2.1, x.2.2.2.2.2, ())
def up125q : RL rs125q.cells → (List K2q) × (List (List Int)) × (List Int) × (List (List Int)) × (List K1q) × (List K1q) := fun d => (d.1, d.2.1, d.2.2.1, d.2.2.2.1, d.2.2.2.2.1, d.2.2.2.2.2.1)
def s125q (k : Nat) (d : AD as125q) := settle_Run k d.1 d.2.1 d.2.2.1 d.2.2.2.1 d.2.2.2.2.1 d.2.2.2.2.2.1 d.2.2.2.2.2.2.1
def R125q : Nat × Entry := (34, fun k nm args h => entry as125q rs125q (s125q k) pk125q nm args h)
theorem ev125q (k : Nat) (d : AD as125q) : evF E125q A125q k 1000 0 Proofs.Try.f34 (absArgs as125q d).1 (absArgs as125q d).2 (outM rs125q up125q) = s125q k d := by
  obtain ⟨_, _, _, _, _, _, _, _⟩ := d
  kernel_rfl
theorem F125q : FnOK Proofs.Try.prog R125q := fn_b (E := E125q) (A := A125q) (na := 0) (fn := Proofs.Try.f34) (S := s125q) (unpack := up125q) B125q (by kernel_rfl) (loopsOK_none (by kernel_rfl)) (by kernel_rfl) (by kernel_rfl) (fun _ => rfl) ev125q

/-! ### giro/giroref14.May -/
noncomputable def E126q : Env := ⟨Proofs.Try.prog, fun t => [51].any (Nat.beq t), sumsOf [R35q, R36q]⟩
def I126_0q : Spec := ⟨[(5, .c (.lit (.osl 1001000 none))), (6, .c (.lit (.osl 1001001 none))), (7, .c (.int .i64)), (8, .c (.lit (.osl 1001002 none))), (9, .c (.bool)), (10, .c (.int .i64))], [.arr true y7q, .arr true y7q, .arr true y7q], []⟩
def X0_126_0q : Spec := ⟨[(5, .c (.lit (.osl 1001000 none))), (6, .c (.lit (.osl 1001001 none))), (7, .c (.int .i64)), (8, .c (.lit (.osl 1001002 none))), (9, .c (.bool))], [.arr true y7q, .arr true y7q, .arr true y7q], []⟩
def O126_0q : List (Ex × Spec) := [(.exit 2, X0_126_0q)]
def c126_0q (f : giroref14_May_L1T) (d : I126_0q.den) : Option giroref14_May_L1X := f d.1.2.2.1.1 d.1.2.2.2.2.1.1 d.1.2.2.2.2.2.1.1 d.2.1 d.2.2.1 d.2.2.2.1
def T126_0q : OutD O126_0q → giroref14_May_L1X := fun d => (d.1.2.2.1.1, d.1.2.2.2.2.1.1, d.2.1, d.2.2.1, d.2.2.2.1)
def e126_0q (base : Nat) (x : giroref14_May_L1X) (R : Type) (K : Ex → St → Option R) : Option R := K (.exit 2) (stOf base X0_126_0q (((), (), (x.1, ()), (), (x.2.1, ()), ()), (x.2.2.1, x.2.2.2.1, x.2.2.2.2, ())))
def L126_0q : LoopSum := ⟨I126_0q, O126_0q, giroref14_May_L1X, fun k d => c126_0q (giroref14_May_L1 k k) d, e126_0q⟩
def I126_1q : Spec := ⟨[(5, .c (.lit (.osl 1001000 none))), (6, .c (.lit (.osl 1001001 none))), (7, .c (.int .i64))], [.arr true y7q, .arr true y7q], [(6, none, y7q, false)]⟩
def X0_126_1q : Spec := ⟨[(6, .c (.lit (.osl 1001000 none)))], [.arr true y7q], []⟩
def O126_1q : List (Ex × Spec) := [(.exit 0, X0_126_1q)]
def c126_1q (f : giroref14_May_L0T) (d : I126_1q.den) : Option giroref14_May_L0X := f d.1.2.2.1.1 d.2.1 d.2.2.1
def T126_1q : OutD O126_1q → giroref14_May_L0X := fun d => d.2.1
def e126_1q (base : Nat) (x : giroref14_May_L0X) (R : Type) (K : Ex → St → Option R) : Option R := K (.exit 0) (stOf base X0_126_1q (((), ()), (x, ())))
def L126_1q : LoopSum := ⟨I126_1q, O126_1q, giroref14_May_L0X, fun k d => c126_1q (giroref14_May_L0 k k) d, e126_1q⟩
def A126q : Notes := ⟨[], [(9, L126_0q), (4, L126_1q)]⟩
theorem B126q : EnvB E126q := env_b (eqOK_flat (fun t h => eqT_mem (p := fun t => Proofs.Try.prog.keyTypeAt 8 t && !Proofs.Try.prog.eqGuardType Proofs.Try.prog.depth t) (l := [51]) (List.forall_mem_cons.2 ⟨by kernel_rfl, List.forall_mem_nil _⟩) t h)) mixed_orders ⟨F35q, F36q, trivial⟩
theorem st126_0q (k : Nat) (rec : giroref14_May_L1T) (d : I126_0q.den) : c126_0q (giroref14_May_L1b k rec) d = evC E126q A126q k 1000 0 61 (loopAt (loopAt (bodyOf Proofs.Try.f69) 0) 0) (stOf (1000 + loopBase) I126_0q d) (roundK 1000 I126_0q O126_0q T126_0q (c126_0q rec)) := by
  obtain ⟨⟨_, _, ⟨_, _⟩, _, ⟨_, _⟩, ⟨_, _⟩, _⟩, ⟨_, _, _, _⟩⟩ := d
  kernel_rfl
theorem lk126_0q : LoopOK Proofs.Try.prog 1000 0 61 (loopAt (loopAt (bodyOf Proofs.Try.f69) 0) 0) L126_0q :=
  loop_b (A := A126q) (inS := I126_0q) (outs := O126_0q) B126q (loopsOK_none (by kernel_rfl)) T126_0q e126_0q (fun _ _ _ => rfl) (fun k n d => c126_0q (giroref14_May_L1 k n) d) (fun _ _ => rfl) (fun k n d => st126_0q k (giroref14_May_L1 k n) d)
theorem st126_1q (k : Nat) (rec : giroref14_May_L0T) (d : I126_1q.den) : c126_1q (giroref14_May_L0b k rec) d = evC E126q A126q k 1000 0 61 (loopAt (bodyOf Proofs.Try.f69) 0) (stOf (1000 + loopBase) I126_1q d) (roundK 1000 I126_1q O126_1q T126_1q (c126_1q rec)) := by
  obtain ⟨⟨_, _, ⟨_, _⟩, _⟩, ⟨_, _, _⟩⟩ := d
  kernel_rfl
theorem lk126_1q : LoopOK Proofs.Try.prog 1000 0 61 (loopAt (bodyOf Proofs.Try.f69) 0) L126_1q :=
  loop_b (A := A126q) (inS := I126_1q) (outs := O126_1q) B126q (loopsOK_of (n := 1) (by kernel_rfl) fun i hi => match i, hi with | 0, _ => ⟨L126_0q, by kernel_rfl, lk126_0q⟩ | i + 1, hi => absurd hi (by omega)) T126_1q e126_1q (fun _ _ _ => rfl) (fun k n d => c126_1q (giroref14_May_L0 k n) d) (fun _ _ => rfl) (fun k n d => st126_1q k (giroref14_May_L0 k n) d)
def as126q : List AS := [.c (.dat false y7q), .c (.int .i64)]
def rs126q : RS := .c (.own y7q)
def pk126q : List K1q → RL rs126q.cells := fun x => (x, ())
def up126q : RL rs126q.cells → List K1q := fun d => d.1
def s126q (k : Nat) (d : AD as126q) := giroref14_May k d.1 d.2.1
def R126q : Nat × Entry := (69, fun k nm args h => entry as126q rs126q (s126q k) pk126q nm args h)
theorem ev126q (k : Nat) (d : AD as126q) : evF E126q A126q k 1000 0 Proofs.Try.f69 (absArgs as126q d).1 (absArgs as126q d).2 (outM rs126q up126q) = s126q k d := by
  obtain ⟨_, _, _⟩ := d
  kernel_rfl
theorem F126q : FnOK Proofs.Try.prog R126q := fn_b (E := E126q) (A := A126q) (na := 0) (fn := Proofs.Try.f69) (S := s126q) (unpack := up126q) B126q (by kernel_rfl) (loopsOK_of (n := 1) (by kernel_rfl) fun i hi => match i, hi with | 0, _ => ⟨L126_1q, by kernel_rfl, lk126_1q⟩ | i + 1, hi => absurd hi (by omega)) (by kernel_rfl) (by kernel_rfl) (fun _ => rfl) ev126q

/-! ### giro/giroref18.Goes -/
noncomputable def E127q : Env := ⟨Proofs.Try.prog, fun _ => false, sumsOf [R90q, R103q]⟩
def A127q : Notes := ⟨[], []⟩
theorem B127q : EnvB E127q := env_n mixed_orders ⟨F90q, F103q, trivial⟩
def as127q : List AS := [.agg [.dat true y3q, .dat true (.sl (.int .i64)), .dat true (.int .i64), .dat true (.sl (.int .i64))], .c (.dat false y7q)]
def rs127q : RS := .tup [(true, [.fro y3q, .fro (.sl (.int .i64)), .fro (.int .i64), .fro (.sl (.int .i64))]), (false, [.bool])]
def pk127q : (List K2q) × (List (List Int)) × (List Int) × (List (List Int)) × Bool → RL rs127q.cells := fun x => (x.1, x.2.1, x.2.2.1, x.2.2.2.1, x.2.2.2.2, ())
def up127q : RL rs127q.cells → (List K2q) × (List (List Int)) × (List Int) × (List (List Int)) × Bool := fun d => (d.1, d.2.1, d.2.2.1, d.2.2.2.1, d.2.2.2.2.1)
def s127q (k : Nat) (d : AD as127q) := giroref18_Goes k d.1 d.2.1 d.2.2.1 d.2.2.2.1 d.2.2.2.2.1
def R127q : Nat × Entry := (70, fun k nm args h => entry as127q rs127q (s127q k) pk127q nm args h)
theorem ev127q (k : Nat) (d : AD as127q) : evF E127q A127q k 1000 0 Proofs.Try.f70 (absArgs as127q d).1 (absArgs as127q d).2 (outM rs127q up127q) = s127q k d := by
  obtain ⟨_, _, _, _, _, _⟩ := d
  kernel_rfl
theorem F127q : FnOK Proofs.Try.prog R127q := fn_b (E := E127q) (A := A127q) (na := 0) (fn := Proofs.Try.f70) (S := s127q) (unpack := up127q) B127q (by kernel_rfl) (loopsOK_none (by kernel_rfl)) (by kernel_rfl) (by kernel_rfl) (fun _ => rfl) ev127q

/-! ### giro/giroref18.Next -/
noncomputable def E128q : Env := ⟨Proofs.Try.prog, fun _ => false, sumsOf [R126q, R127q]⟩
def I128_0q : Spec := ⟨[(3, .c (.lit (.ptr 1001000 0))), (6, .c (.lit (.ptr 1001001 0))), (8, .c (.lit (.osl 1001002 none))), (9, .c (.int .i64))], [.box true [.dat true y3q, .dat true (.sl (.int .i64)), .dat true (.int .i64), .dat true (.sl (.int .i64))], .box true [.int .i64, .int .i64, .int .i64, .int .i64, .int .i64, .int .i64, .int .i64], .arr true y7q], []⟩
def X0_128_0q : Spec := ⟨[(6, .c (.lit (.ptr 1001000 0)))], [.box true [.int .i64, .int .i64, .int .i64, .int .i64, .int .i64, .int .i64, .int .i64]], []⟩
def X1_128_0q : Spec := ⟨[(6, .c (.lit (.ptr 1001000 0))), (7, .c (.bool))], [.box true [.int .i64, .int .i64, .int .i64, .int .i64, .int .i64, .int .i64, .int .i64]], []⟩
def O128_0q : List (Ex × Spec) := [(.exit 0, X0_128_0q), (.ret, X1_128_0q)]
def c128_0q (f : giroref18_Next_L0T) (d : I128_0q.den) : Option giroref18_Next_L0X := f d.1.2.2.2.1.1 d.2.1.1 d.2.1.2.1 d.2.1.2.2.1 d.2.1.2.2.2.1 d.2.2.1.1 d.2.2.1.2.1 d.2.2.1.2.2.1 d.2.2.1.2.2.2.1 d.2.2.1.2.2.2.2.1 d.2.2.1.2.2.2.2.2.1 d.2.2.1.2.2.2.2.2.2.1 d.2.2.2.1
def T128_0q : OutD O128_0q → giroref18_Next_L0X
 | .inl d => .inl (d.2.1.1, d.2.1.2.1, d.2.1.2.2.1, d.2.1.2.2.2.1, d.2.1.2.2.2.2.1, d.2.1.2.2.2.2.2.1, d.2.1.2.2.2.2.2.2.1)
 | .inr d => .inr (d.1.2.1.1, d.2.1.1, d.2.1.2.1, d.2.1.2.2.1, d.2.1.2.2.2.1, d.2.1.2.2.2.2.1, d.2.1.2.2.2.2.2.1, d.2.1.2.2.2.2.2.2.1)
def e128_0q (base : Nat) (x : giroref18_Next_L0X) (R : Type) (K : Ex → St → Option R) : Option R := match x with
 | .inl x => K (.exit 0) (stOf base X0_128_0q (((), ()), ((x.1, x.2.1, x.2.2.1, x.2.2.2.1, x.2.2.2.2.1, x.2.2.2.2.2.1, x.2.2.2.2.2.2, ()), ())))
 | .inr x => K .ret (stOf base X1_128_0q (((), (x.1, ()), ()), ((x.2.1, x.2.2.1, x.2.2.2.1, x.2.2.2.2.1, x.2.2.2.2.2.1, x.2.2.2.2.2.2.1, x.2.2.2.2.2.2.2, ()), ())))
def L128_0q : LoopSum := ⟨I128_0q, O128_0q, giroref18_Next_L0X, fun k d => c128_0q (giroref18_Next_L0 k k) d, e128_0q⟩
def A128q : Notes := ⟨[], [(3, L128_0q)]⟩
theorem B128q : EnvB E128q := env_n mixed_orders ⟨F126q, F127q, trivial⟩
theorem st128_0q (k : Nat) (rec : giroref18_Next_L0T) (d : I128_0q.den) : c128_0q (giroref18_Next_L0b k rec) d = evC E128q A128q k 1000 0 37 (loopAt (bodyOf Proofs.Try.f36) 0) (stOf (1000 + loopBase) I128_0q d) (roundK 1000 I128_0q O128_0q T128_0q (c128_0q rec)) := by
  obtain ⟨⟨_, _, _, ⟨_, _⟩, _⟩, ⟨⟨_, _, _, _, _⟩, ⟨_, _, _, _, _, _, _, _⟩, _, _⟩⟩ := d
  kernel_rfl
theorem lk128_0q : LoopOK Proofs.Try.prog 1000 0 37 (loopAt (bodyOf Proofs.Try.f36) 0) L128_0q :=
  loop_b (A := A128q) (inS := I128_0q) (outs := O128_0q) B128q (loopsOK_none (by kernel_rfl)) T128_0q e128_0q (by intro o R K; rcases o with o | o <;> rfl) (fun k n d => c128_0q (giroref18_Next_L0 k n) d) (fun _ _ => rfl) (fun k n d => st128_0q k (giroref18_Next_L0 k n) d)
def as128q : List AS := [.agg [.dat true y3q, .dat true (.sl (.int .i64)), .dat true (.int .i64), .dat true (.sl (.int .i64))], .c (.dat true y7q), .c (.int .i64)]
def rs128q : RS := .tup [(true, [.int .i64, .int .i64, .int .i64, .int .i64, .int .i64, .int .i64, .int .i64]), (false, [.bool])]
def pk128q : Int × Int × Int × Int × Int × Int × Int × Bool → RL rs128q.cells := fun x => (x.1, x.2.1, x.2.2.1, x.2.2.2.1, x.2.2.2.2.1, x.2.2.2.2.2.1, x.2.2.2.2.2.2.1, x.2.2.2.2.2.2.2, ())
def up128q : RL rs128q.cells → Int × Int × Int × Int × Int × Int × Int × Bool := fun d => (d.1, d.2.1, d.2.2.1, d.2.2.2.1, d.2.2.2.2.1, d.2.2.2.2.2.1, d.2.2.2.2.2.2.1, d.2.2.2.2.2.2.2.1)
def s128q (k : Nat) (d : AD as128q) := giroref18_Next k d.1 d.2.1 d.2.2.1 d.2.2.2.1 d.2.2.2.2.1 d.2.2.2.2.2.1
def R128q : Nat × Entry := (36, fun k nm args h => entry as128q rs128q (s128q k) pk128q nm args h)
theorem ev128q (k : Nat) (d : AD as128q) : evF E128q A128q k 1000 0 Proofs.Try.f36 (absArgs as128q d).1 (absArgs as128q d).2 (outM rs128q up128q) = s128q k d := by
  obtain ⟨_, _, _, _, _, _, _⟩ := d
  kernel_rfl
theorem F128q : FnOK Proofs.Try.prog R128q := fn_b (E := E128q) (A := A128q) (na := 0) (fn := Proofs.Try.f36) (S := s128q) (unpack := up128q) B128q (by kernel_rfl) (loopsOK_of (n := 1) (by kernel_rfl) fun i hi => match i, hi with | 0, _ => ⟨L128_0q, by kernel_rfl, lk128_0q⟩ | i + 1, hi => absurd hi (by omega)) (by kernel_rfl) (by kernel_rfl) (fun _ => rfl) ev128q

/-! ### giro/giroref19.Next -/
noncomputable def E129q : Env := ⟨Proofs.Try.prog, fun _ => false, sumsOf [R126q, R127q]⟩
def I129_0q : Spec := ⟨[(3, .c (.lit (.ptr 1001000 0))), (6, .c (.lit (.ptr 1001001 0))), (7, .c (.lit (.ptr 1001002 0))), (9, .c (.lit (.osl 1001003 none))), (10, .c (.int .i64)), (11, .c (.int .i64))], [.box true [.dat true y3q, .dat true (.sl (.int .i64)), .dat true (.int .i64), .dat true (.sl (.int .i64))], .box true [.int .i64, .int .i64, .int .i64, .int .i64, .int .i64, .int .i64, .int .i64], .box true [.int .i64, .int .i64, .int .i64, .int .i64, .int .i64, .int .i64, .int .i64], .arr true y7q], []⟩
def X0_129_0q : Spec := ⟨[(3, .c (.lit (.ptr 1001000 0))), (6, .c (.lit (.ptr 1001001 0))), (7, .c (.lit (.ptr 1001002 0))), (9, .c (.lit (.osl 1001003 none))), (10, .c (.int .i64))], [.box true [.dat true y3q, .dat true (.sl (.int .i64)), .dat true (.int .i64), .dat true (.sl (.int .i64))], .box true [.int .i64, .int .i64, .int .i64, .int .i64, .int .i64, .int .i64, .int .i64], .box true [.int .i64, .int .i64, .int .i64, .int .i64, .int .i64, .int .i64, .int .i64], .arr true y7q], []⟩
def X1_129_0q : Spec := ⟨[(6, .c (.lit (.ptr 1001000 0))), (7, .c (.lit (.ptr 1001001 0))), (8, .c (.bool))], [.box true [.int .i64, .int .i64, .int .i64, .int .i64, .int .i64, .int .i64, .int .i64], .box true [.int .i64, .int .i64, .int .i64, .int .i64, .int .i64, .int .i64, .int .i64]], []⟩
def O129_0q : List (Ex × Spec) := [(.exit 2, X0_129_0q), (.ret, X1_129_0q)]
def c129_0q (f : giroref19_Next_L1T) (d : I129_0q.den) : Option giroref19_Next_L1X := f d.1.2.2.2.2.1.1 d.1.2.2.2.2.2.1.1 d.2.1.1 d.2.1.2.1 d.2.1.2.2.1 d.2.1.2.2.2.1 d.2.2.1.1 d.2.2.1.2.1 d.2.2.1.2.2.1 d.2.2.1.2.2.2.1 d.2.2.1.2.2.2.2.1 d.2.2.1.2.2.2.2.2.1 d.2.2.1.2.2.2.2.2.2.1 d.2.2.2.1.1 d.2.2.2.1.2.1 d.2.2.2.1.2.2.1 d.2.2.2.1.2.2.2.1 d.2.2.2.1.2.2.2.2.1 d.2.2.2.1.2.2.2.2.2.1 d.2.2.2.1.2.2.2.2.2.2.1 d.2.2.2.2.1
def T129_0q : OutD O129_0q → giroref19_Next_L1X
 | .inl d => .inl (d.1.2.2.2.2.1.1, d.2.1.1, d.2.1.2.1, d.2.1.2.2.1, d.2.1.2.2.2.1, d.2.2.1.1, d.2.2.1.2.1, d.2.2.1.2.2.1, d.2.2.1.2.2.2.1, d.2.2.1.2.2.2.2.1, d.2.2.1.2.2.2.2.2.1, d.2.2.1.2.2.2.2.2.2.1, d.2.2.2.1.1, d.2.2.2.1.2.1, d.2.2.2.1.2.2.1, d.2.2.2.1.2.2.2.1, d.2.2.2.1.2.2.2.2.1, d.2.2.2.1.2.2.2.2.2.1, d.2.2.2.1.2.2.2.2.2.2.1, d.2.2.2.2.1)
 | .inr d => .inr (d.1.2.2.1.1, d.2.1.1, d.2.1.2.1, d.2.1.2.2.1, d.2.1.2.2.2.1, d.2.1.2.2.2.2.1, d.2.1.2.2.2.2.2.1, d.2.1.2.2.2.2.2.2.1, d.2.2.1.1, d.2.2.1.2.1, d.2.2.1.2.2.1, d.2.2.1.2.2.2.1, d.2.2.1.2.2.2.2.1, d.2.2.1.2.2.2.2.2.1, d.2.2.1.2.2.2.2.2.2.1)
def e129_0q (base : Nat) (x : giroref19_Next_L1X) (R : Type) (K : Ex → St → Option R) : Option R := match x with
 | .inl x => K (.exit 2) (stOf base X0_129_0q (((), (), (), (), (x.1, ()), ()), ((x.2.1, x.2.2.1, x.2.2.2.1, x.2.2.2.2.1, ()), (x.2.2.2.2.2.1, x.2.2.2.2.2.2.1, x.2.2.2.2.2.2.2.1, x.2.2.2.2.2.2.2.2.1, x.2.2.2.2.2.2.2.2.2.1, x.2.2.2.2.2.2.2.2.2.2.1, x.2.2.2.2.2.2.2.2.2.2.2.1, ()), (x.2.2.2.2.2.2.2.2.2.2.2.2.1, x.2.2.2.2.2.2.2.2.2.2.2.2.2.1, x.2.2.2.2.2.2.2.2.2.2.2.2.2.2.1, x.2.2.2.2.2.2.2.2.2.2.2.2.2.2.2.1, x.2.2.2.2.2.2.2.2.2.2.2.2.2.2.2.2.1, x.2.2.2.2.2.2.2.2.2.2.2.2.2.2.2.2.2.1, x.2.2.2.2.2.2.2.2.2.2.2.2.2.2.2.2.2.2.1, ()), x.2.2.2.2.2.2.2.2.2.2.2.2.2.2.2.2.2.2.2, ())))
 | .inr x => K .ret (stOf base X1_129_0q (((), (), (x.1, ()), ()), ((x.2.1, x.2.2.1, x.2.2.2.1, x.2.2.2.2.1, x.2.2.2.2.2.1, x.2.2.2.2.2.2.1, x.2.2.2.2.2.2.2.1, ()), (x.2.2.2.2.2.2.2.2.1, x.2.2.2.2.2.2.2.2.2.1, x.2.2.2.2.2.2.2.2.2.2.1, x.2.2.2.2.2.2.2.2.2.2.2.1, x.2.2.2.2.2.2.2.2.2.2.2.2.1, x.2.2.2.2.2.2.2.2.2.2.2.2.2.1, x.2.2.2.2.2.2.2.2.2.2.2.2.2.2, ()), ())))
def L129_0q : LoopSum := ⟨I129_0q, O129_0q, giroref19_Next_L1X, fun k d => c129_0q (giroref19_Next_L1 k k) d, e129_0q⟩
def I129_1q : Spec := ⟨[(3, .c (.lit (.ptr 1001000 0))), (6, .c (.lit (.ptr 1001001 0))), (7, .c (.lit (.ptr 1001002 0))), (9, .c (.lit (.osl 1001003 none))), (10, .c (.int .i64))], [.box true [.dat true y3q, .dat true (.sl (.int .i64)), .dat true (.int .i64), .dat true (.sl (.int .i64))], .box true [.int .i64, .int .i64, .int .i64, .int .i64, .int .i64, .int .i64, .int .i64], .box true [.int .i64, .int .i64, .int .i64, .int .i64, .int .i64, .int .i64, .int .i64], .arr true y7q], []⟩
def X0_129_1q : Spec := ⟨[(6, .c (.lit (.ptr 1001000 0))), (7, .c (.lit (.ptr 1001001 0)))], [.box true [.int .i64, .int .i64, .int .i64, .int .i64, .int .i64, .int .i64, .int .i64], .box true [.int .i64, .int .i64, .int .i64, .int .i64, .int .i64, .int .i64, .int .i64]], []⟩
def X1_129_1q : Spec := ⟨[(6, .c (.lit (.ptr 1001000 0))), (7, .c (.lit (.ptr 1001001 0))), (8, .c (.bool))], [.box true [.int .i64, .int .i64, .int .i64, .int .i64, .int .i64, .int .i64, .int .i64], .box true [.int .i64, .int .i64, .int .i64, .int .i64, .int .i64, .int .i64, .int .i64]], []⟩
def O129_1q : List (Ex × Spec) := [(.exit 0, X0_129_1q), (.ret, X1_129_1q)]
def c129_1q (f : giroref19_Next_L0T) (d : I129_1q.den) : Option giroref19_Next_L0X := f d.1.2.2.2.2.1.1 d.2.1.1 d.2.1.2.1 d.2.1.2.2.1 d.2.1.2.2.2.1 d.2.2.1.1 d.2.2.1.2.1 d.2.2.1.2.2.1 d.2.2.1.2.2.2.1 d.2.2.1.2.2.2.2.1 d.2.2.1.2.2.2.2.2.1 d.2.2.1.2.2.2.2.2.2.1 d.2.2.2.1.1 d.2.2.2.1.2.1 d.2.2.2.1.2.2.1 d.2.2.2.1.2.2.2.1 d.2.2.2.1.2.2.2.2.1 d.2.2.2.1.2.2.2.2.2.1 d.2.2.2.1.2.2.2.2.2.2.1 d.2.2.2.2.1
def T129_1q : OutD O129_1q → giroref19_Next_L0X
 | .inl d => .inl (d.2.1.1, d.2.1.2.1, d.2.1.2.2.1, d.2.1.2.2.2.1, d.2.1.2.2.2.2.1, d.2.1.2.2.2.2.2.1, d.2.1.2.2.2.2.2.2.1, d.2.2.1.1, d.2.2.1.2.1, d.2.2.1.2.2.1, d.2.2.1.2.2.2.1, d.2.2.1.2.2.2.2.1, d.2.2.1.2.2.2.2.2.1, d.2.2.1.2.2.2.2.2.2.1)
 | .inr d => .inr (d.1.2.2.1.1, d.2.1.1, d.2.1.2.1, d.2.1.2.2.1, d.2.1.2.2.2.1, d.2.1.2.2.2.2.1, d.2.1.2.2.2.2.2.1, d.2.1.2.2.2.2.2.2.1, d.2.2.1.1, d.2.2.1.2.1, d.2.2.1.2.2.1, d.2.2.1.2.2.2.1, d.2.2.1.2.2.2.2.1, d.2.2.1.2.2.2.2.2.1, d.2.2.1.2.2.2.2.2.2.1)
def e129_1q (base : Nat) (x : giroref19_Next_L0X) (R : Type) (K : Ex → St → Option R) : Option R := match x with
 | .inl x => K (.exit 0) (stOf base X0_129_1q (((), (), ()), ((x.1, x.2.1, x.2.2.1, x.2.2.2.1, x.2.2.2.2.1, x.2.2.2.2.2.1, x.2.2.2.2.2.2.1, ()), (x.2.2.2.2.2.2.2.1, x.2.2.2.2.2.2.2.2.1, x.2.2.2.2.2.2.2.2.2.1, x.2.2.2.2.2.2.2.2.2.2.1, x.2.2.2.2.2.2.2.2.2.2.2.1, x.2.2.2.2.2.2.2.2.2.2.2.2.1, x.2.2.2.2.2.2.2.2.2.2.2.2.2, ()), ())))
 | .inr x => K .ret (stOf base X1_129_1q (((), (), (x.1, ()), ()), ((x.2.1, x.2.2.1, x.2.2.2.1, x.2.2.2.2.1, x.2.2.2.2.2.1, x.2.2.2.2.2.2.1, x.2.2.2.2.2.2.2.1, ()), (x.2.2.2.2.2.2.2.2.1, x.2.2.2.2.2.2.2.2.2.1, x.2.2.2.2.2.2.2.2.2.2.1, x.2.2.2.2.2.2.2.2.2.2.2.1, x.2.2.2.2.2.2.2.2.2.2.2.2.1, x.2.2.2.2.2.2.2.2.2.2.2.2.2.1, x.2.2.2.2.2.2.2.2.2.2.2.2.2.2, ()), ())))
def L129_1q : LoopSum := ⟨I129_1q, O129_1q, giroref19_Next_L0X, fun k d => c129_1q (giroref19_Next_L0 k k) d, e129_1q⟩
def A129q : Notes := ⟨[], [(6, L129_0q), (3, L129_1q)]⟩
theorem B129q : EnvB E129q := env_n mixed_orders ⟨F126q, F127q, trivial⟩
theorem st129_0q (k : Nat) (rec : giroref19_Next_L1T) (d : I129_0q.den) : c129_0q (giroref19_Next_L1b k rec) d = evC E129q A129q k 1000 0 71 (loopAt (loopAt (bodyOf Proofs.Try.f37) 0) 0) (stOf (1000 + loopBase) I129_0q d) (roundK 1000 I129_0q O129_0q T129_0q (c129_0q rec)) := by
  obtain ⟨⟨_, _, _, _, ⟨_, _⟩, ⟨_, _⟩, _⟩, ⟨⟨_, _, _, _, _⟩, ⟨_, _, _, _, _, _, _, _⟩, ⟨_, _, _, _, _, _, _, _⟩, _, _⟩⟩ := d
  kernel_rfl
theorem lk129_0q : LoopOK Proofs.Try.prog 1000 0 71 (loopAt (loopAt (bodyOf Proofs.Try.f37) 0) 0) L129_0q :=
  loop_b (A := A129q) (inS := I129_0q) (outs := O129_0q) B129q (loopsOK_none (by kernel_rfl)) T129_0q e129_0q (by intro o R K; rcases o with o | o <;> rfl) (fun k n d => c129_0q (giroref19_Next_L1 k n) d) (fun _ _ => rfl) (fun k n d => st129_0q k (giroref19_Next_L1 k n) d)
theorem st129_1q (k : Nat) (rec : giroref19_Next_L0T) (d : I129_1q.den) : c129_1q (giroref19_Next_L0b k rec) d = evC E129q A129q k 1000 0 71 (loopAt (bodyOf Proofs.Try.f37) 0) (stOf (1000 + loopBase) I129_1q d) (roundK 1000 I129_1q O129_1q T129_1q (c129_1q rec)) := by
  obtain ⟨⟨_, _, _, _, ⟨_, _⟩, _⟩, ⟨⟨_, _, _, _, _⟩, ⟨_, _, _, _, _, _, _, _⟩, ⟨_, _, _, _, _, _, _, _⟩, _, _⟩⟩ := d
  kernel_rfl
theorem lk129_1q : LoopOK Proofs.Try.prog 1000 0 71 (loopAt (bodyOf Proofs.Try.f37) 0) L129_1q :=
  loop_b (A := A129q) (inS := I129_1q) (outs := O129_1q) B129q (loopsOK_of (n := 1) (by kernel_rfl) fun i hi => match i, hi with | 0, _ => ⟨L129_0q, by kernel_rfl, lk129_0q⟩ | i + 1, hi => absurd hi (by omega)) T129_1q e129_1q (by intro o R K; rcases o with o | o <;> rfl) (fun k n d => c129_1q (giroref19_Next_L0 k n) d) (fun _ _ => rfl) (fun k n d => st129_1q k (giroref19_Next_L0 k n) d)
def as129q : List AS := [.agg [.dat true y3q, .dat true (.sl (.int .i64)), .dat true (.int .i64), .dat true (.sl (.int .i64))], .c (.dat true y7q), .c (.int .i64)]
def rs129q : RS := .tup [(true, [.int .i64, .int .i64, .int .i64, .int .i64, .int .i64, .int .i64, .int .i64]), (true, [.int .i64, .int .i64, .int .i64, .int .i64, .int .i64, .int .i64, .int .i64]), (false, [.bool])]
def pk129q : Int × Int × Int × Int × Int × Int × Int × Int × Int × Int × Int × Int × Int × Int × Bool → RL rs129q.cells := fun x => (x.1, x.2.1, x.2.2.1, x.2.2.2.1, x.2.2.2.2.1, x.2.2.2.2.2.1, x.2.2.2.2.2.2.1, x.2.2.2.2.2.2.2.1, x.2.2.2.2.2.2.2.2.1, x.2.2.2.2.2.2.2.2.2.1, x.2.2.2.2.2.2.2.2.2.2.1, x.2.2.2.2.2.2.2.2.2.2.2.1, x.2.2.2.2.2.2.2.2.2.2.2.2.1, x.2.2.2.2.2.2.2.2.2.2.2.2.2.1, x.2.2.2.2.2.2.2.2.2.2.2.2.2.2, ())
def up129q : RL rs129q.cells → Int × Int × Int × Int × Int × Int × Int × Int × Int × Int × Int × Int × Int × Int × Bool := fun d => (d.1, d.2.1, d.2.2.1, d.2.2.2.1, d.2.2.2.2.1, d.2.2.2.2.2.1, d.2.2.2.2.2.2.1, d.2.2.2.2.2.2.2.1, d.2.2.2.2.2.2.2.2.1, d.2.2.2.2.2.2.2.2.2.1, d.2.2.2.2.2.2.2.2.2.2.1, d.2.2.2.2.2.2.2.2.2.2.2.1, d.2.2.2.2.2.2.2.2.2.2.2.2.1, d.2.2.2.2.2.2.2.2.2.2.2.2.2.1, d.2.2.2.2.2.2.2.2.2.2.2.2.2.2.1)
def s129q (k : Nat) (d : AD as129q) := giroref19_Next k d.1 d.2.1 d.2.2.1 d.2.2.2.1 d.2.2.2.2.1 d.2.2.2.2.2.1
def R129q : Nat × Entry := (37, fun k nm args h => entry as129q rs129q (s129q k) pk129q nm args h)
theorem ev129q (k : Nat) (d : AD as129q) : evF E129q A129q k 1000 0 Proofs.Try.f37 (absArgs as129q d).1 (absArgs as129q d).2 (outM rs129q up129q) = s129q k d := by
  obtain ⟨_, _, _, _, _, _, _⟩ := d
  kernel_rfl
theorem F129q : FnOK Proofs.Try.prog R129q := fn_b (E := E129q) (A := A129q) (na := 0) (fn := Proofs.Try.f37) (S := s129q) (unpack := up129q) B129q (by kernel_rfl) (loopsOK_of (n := 1) (by kernel_rfl) fun i hi => match i, hi with | 0, _ => ⟨L129_1q, by kernel_rfl, lk129_1q⟩ | i + 1, hi => absurd hi (by omega)) (by kernel_rfl) (by kernel_rfl) (fun _ => rfl) ev129q

/-! ### giro/girolaw21.ring -/
noncomputable def E130q : Env := ⟨Proofs.Try.prog, fun _ => false, sumsOf []⟩
def I130_0q : Spec := ⟨[(0, .c (.int .i64)), (3, .c (.lit (.osl 1001000 none))), (4, .c (.int .i64))], [.arr true y7q], [(3, none, y7q, false)]⟩
def X0_130_0q : Spec := ⟨[(3, .c (.lit (.osl 1001000 none)))], [.arr true y7q], []⟩
def O130_0q : List (Ex × Spec) := [(.exit 0, X0_130_0q)]
def c130_0q (f : girolaw21_ring_L0T) (d : I130_0q.den) : Option girolaw21_ring_L0X := f d.1.1.1 d.1.2.2.1.1 d.2.1
def T130_0q : OutD O130_0q → girolaw21_ring_L0X := fun d => d.2.1
def e130_0q (base : Nat) (x : girolaw21_ring_L0X) (R : Type) (K : Ex → St → Option R) : Option R := K (.exit 0) (stOf base X0_130_0q (((), ()), (x, ())))
def L130_0q : LoopSum := ⟨I130_0q, O130_0q, girolaw21_ring_L0X, fun k d => c130_0q (girolaw21_ring_L0 k k) d, e130_0q⟩
def A130q : Notes := ⟨[], [(3, L130_0q)]⟩
theorem B130q : EnvB E130q := env_n mixed_orders trivial
theorem st130_0q (k : Nat) (rec : girolaw21_ring_L0T) (d : I130_0q.den) : c130_0q (girolaw21_ring_L0b k rec) d = evC E130q A130q k 1000 0 21 (loopAt (bodyOf Proofs.Try.f71) 0) (stOf (1000 + loopBase) I130_0q d) (roundK 1000 I130_0q O130_0q T130_0q (c130_0q rec)) := by
  obtain ⟨⟨⟨_, _⟩, _, ⟨_, _⟩, _⟩, ⟨_, _⟩⟩ := d
  kernel_rfl
theorem lk130_0q : LoopOK Proofs.Try.prog 1000 0 21 (loopAt (bodyOf Proofs.Try.f71) 0) L130_0q :=
  loop_b (A := A130q) (inS := I130_0q) (outs := O130_0q) B130q (loopsOK_none (by kernel_rfl)) T130_0q e130_0q (fun _ _ _ => rfl) (fun k n d => c130_0q (girolaw21_ring_L0 k n) d) (fun _ _ => rfl) (fun k n d => st130_0q k (girolaw21_ring_L0 k n) d)
def as130q : List AS := [.c (.int .i64)]
def rs130q : RS := .c (.own y7q)
def pk130q : List K1q → RL rs130q.cells := fun x => (x, ())
def up130q : RL rs130q.cells → List K1q := fun d => d.1
def s130q (k : Nat) (d : AD as130q) := girolaw21_ring k d.1
def R130q : Nat × Entry := (71, fun k nm args h => entry as130q rs130q (s130q k) pk130q nm args h)
theorem ev130q (k : Nat) (d : AD as130q) : evF E130q A130q k 1000 0 Proofs.Try.f71 (absArgs as130q d).1 (absArgs as130q d).2 (outM rs130q up130q) = s130q k d := by
  obtain ⟨_, _⟩ := d
  kernel_rfl
theorem F130q : FnOK Proofs.Try.prog R130q := fn_b (E := E130q) (A := A130q) (na := 0) (fn := Proofs.Try.f71) (S := s130q) (unpack := up130q) B130q (by kernel_rfl) (loopsOK_of (n := 1) (by kernel_rfl) fun i hi => match i, hi with | 0, _ => ⟨L130_0q, by kernel_rfl, lk130_0q⟩ | i + 1, hi => absurd hi (by omega)) (by kernel_rfl) (by kernel_rfl) (fun _ => rfl) ev130q

/-! ### giro/girolaw21.known -/
noncomputable def E131q : Env := ⟨Proofs.Try.prog, fun _ => false, sumsOf [R108q, R130q, R125q]⟩
def A131q : Notes := ⟨[], []⟩
theorem B131q : EnvB E131q := env_n mixed_orders ⟨F108q, F130q, F125q, trivial⟩
def as131q : List AS := []
def rs131q : RS := .c (.bool)
def pk131q : Bool → RL rs131q.cells := fun x => (x, ())
def up131q : RL rs131q.cells → Bool := fun d => d.1
def s131q (k : Nat) (d : AD as131q) := girolaw21_known k
def R131q : Nat × Entry := (38, fun k nm args h => entry as131q rs131q (s131q k) pk131q nm args h)
theorem ev131q (k : Nat) (d : AD as131q) : evF E131q A131q k 1000 0 Proofs.Try.f38 (absArgs as131q d).1 (absArgs as131q d).2 (outM rs131q up131q) = s131q k d := by
  kernel_rfl
theorem F131q : FnOK Proofs.Try.prog R131q := fn_b (E := E131q) (A := A131q) (na := 0) (fn := Proofs.Try.f38) (S := s131q) (unpack := up131q) B131q (by kernel_rfl) (loopsOK_none (by kernel_rfl)) (by kernel_rfl) (by kernel_rfl) (fun _ => rfl) ev131q

/-! ### giro/girolaw21.SettleEnds -/
noncomputable def E_girolaw21_SettleEnds : Env := ⟨Proofs.Try.prog, fun _ => false, sumsOf [R108q, R109q, R125q, R89q, R1q, R128q, R129q, R131q]⟩
def I_girolaw21_SettleEnds_L0 : Spec := ⟨[(3, .c (.int .i64)), (12, .c (.dat true y7q)), (13, .c (.lit (.ptr 1001000 0))), (14, .c (.dat true y7q)), (15, .c (.lit (.osl 1001001 none))), (16, .c (.int .i64))], [.box true [.dat true y3q, .dat true (.sl (.int .i64)), .dat true (.int .i64), .dat true (.sl (.int .i64))], .arr true y7q], []⟩
def X0_girolaw21_SettleEnds_L0 : Spec := ⟨[(3, .c (.int .i64)), (13, .c (.lit (.ptr 1001000 0))), (14, .c (.dat true y7q))], [.box true [.dat true y3q, .dat true (.sl (.int .i64)), .dat true (.int .i64), .dat true (.sl (.int .i64))]], []⟩
def X1_girolaw21_SettleEnds_L0 : Spec := ⟨[(10, .c (.bool))], [], []⟩
def O_girolaw21_SettleEnds_L0 : List (Ex × Spec) := [(.exit 0, X0_girolaw21_SettleEnds_L0), (.ret, X1_girolaw21_SettleEnds_L0)]
def c_girolaw21_SettleEnds_L0 (f : girolaw21_SettleEnds_L0T) (d : I_girolaw21_SettleEnds_L0.den) : Option girolaw21_SettleEnds_L0X := f d.1.1.1 d.1.2.1.1 d.1.2.2.2.1.1 d.1.2.2.2.2.2.1.1 d.2.1.1 d.2.1.2.1 d.2.1.2.2.1 d.2.1.2.2.2.1 d.2.2.1
def T_girolaw21_SettleEnds_L0 : OutD O_girolaw21_SettleEnds_L0 → girolaw21_SettleEnds_L0X
 | .inl d => .inl (d.1.1.1, d.1.2.2.1.1, d.2.1.1, d.2.1.2.1, d.2.1.2.2.1, d.2.1.2.2.2.1)
 | .inr d => .inr d.1.1.1
def e_girolaw21_SettleEnds_L0 (base : Nat) (x : girolaw21_SettleEnds_L0X) (R : Type) (K : Ex → St → Option R) : Option R := match x with
 | .inl x => K (.exit 0) (stOf base X0_girolaw21_SettleEnds_L0 (((x.1, ()), (), (x.2.1, ()), ()), ((x.2.2.1, x.2.2.2.1, x.2.2.2.2.1, x.2.2.2.2.2, ()), ())))
 | .inr x => K .ret (stOf base X1_girolaw21_SettleEnds_L0 (((x, ()), ()), ()))
def L_girolaw21_SettleEnds_L0 : LoopSum := ⟨I_girolaw21_SettleEnds_L0, O_girolaw21_SettleEnds_L0, girolaw21_SettleEnds_L0X, fun k d => c_girolaw21_SettleEnds_L0 (girolaw21_SettleEnds_L0 k k) d, e_girolaw21_SettleEnds_L0⟩
def A_girolaw21_SettleEnds : Notes := ⟨[], [(8, L_girolaw21_SettleEnds_L0)]⟩
theorem B_girolaw21_SettleEnds : EnvB E_girolaw21_SettleEnds := env_n mixed_orders ⟨F108q, F109q, F125q, F89q, F1q, F128q, F129q, F131q, trivial⟩
theorem girolaw21_SettleEnds_L0_step (k : Nat) (rec : girolaw21_SettleEnds_L0T) (d : I_girolaw21_SettleEnds_L0.den) : c_girolaw21_SettleEnds_L0 (girolaw21_SettleEnds_L0b k rec) d = evC E_girolaw21_SettleEnds A_girolaw21_SettleEnds k 1000 0 99 (loopAt (bodyOf Proofs.Try.f9) 0) (stOf (1000 + loopBase) I_girolaw21_SettleEnds_L0 d) (roundK 1000 I_girolaw21_SettleEnds_L0 O_girolaw21_SettleEnds_L0 T_girolaw21_SettleEnds_L0 (c_girolaw21_SettleEnds_L0 rec)) := by
  obtain ⟨⟨⟨_, _⟩, ⟨_, _⟩, _, ⟨_, _⟩, _, ⟨_, _⟩, _⟩, ⟨⟨_, _, _, _, _⟩, _, _⟩⟩ := d
  kernel_rfl
theorem girolaw21_SettleEnds_L0_ok : LoopOK Proofs.Try.prog 1000 0 99 (loopAt (bodyOf Proofs.Try.f9) 0) L_girolaw21_SettleEnds_L0 :=
  loop_b (A := A_girolaw21_SettleEnds) (inS := I_girolaw21_SettleEnds_L0) (outs := O_girolaw21_SettleEnds_L0) B_girolaw21_SettleEnds (loopsOK_none (by kernel_rfl)) T_girolaw21_SettleEnds_L0 e_girolaw21_SettleEnds_L0 (by intro o R K; rcases o with o | o <;> rfl) (fun k n d => c_girolaw21_SettleEnds_L0 (girolaw21_SettleEnds_L0 k n) d) (fun _ _ => rfl) (fun k n d => girolaw21_SettleEnds_L0_step k (girolaw21_SettleEnds_L0 k n) d)
def as_girolaw21_SettleEnds : List AS := [.c (.dat false (.int .i64)), .c (.int .i64), .c (.dat false y7q), .c (.int .i64), .c (.bool)]
def rs_girolaw21_SettleEnds : RS := .c (.bool)
def pk_girolaw21_SettleEnds : Bool → RL rs_girolaw21_SettleEnds.cells := fun x => (x, ())
def up_girolaw21_SettleEnds : RL rs_girolaw21_SettleEnds.cells → Bool := fun d => d.1
def s_girolaw21_SettleEnds (k : Nat) (d : AD as_girolaw21_SettleEnds) := girolaw21_SettleEnds k d.1 d.2.1 d.2.2.1 d.2.2.2.1 d.2.2.2.2.1
def R_girolaw21_SettleEnds : Nat × Entry := (9, fun k nm args h => entry as_girolaw21_SettleEnds rs_girolaw21_SettleEnds (s_girolaw21_SettleEnds k) pk_girolaw21_SettleEnds nm args h)
theorem girolaw21_SettleEnds_ev (k : Nat) (d : AD as_girolaw21_SettleEnds) : evF E_girolaw21_SettleEnds A_girolaw21_SettleEnds k 1000 0 Proofs.Try.f9 (absArgs as_girolaw21_SettleEnds d).1 (absArgs as_girolaw21_SettleEnds d).2 (outM rs_girolaw21_SettleEnds up_girolaw21_SettleEnds) = s_girolaw21_SettleEnds k d := by
  obtain ⟨_, _, _, _, _, _⟩ := d
  kernel_rfl
theorem F_girolaw21_SettleEnds : FnOK Proofs.Try.prog R_girolaw21_SettleEnds := fn_b (E := E_girolaw21_SettleEnds) (A := A_girolaw21_SettleEnds) (na := 0) (fn := Proofs.Try.f9) (S := s_girolaw21_SettleEnds) (unpack := up_girolaw21_SettleEnds) B_girolaw21_SettleEnds (by kernel_rfl) (loopsOK_of (n := 1) (by kernel_rfl) fun i hi => match i, hi with | 0, _ => ⟨L_girolaw21_SettleEnds_L0, by kernel_rfl, girolaw21_SettleEnds_L0_ok⟩ | i + 1, hi => absurd hi (by omega)) (by kernel_rfl) (by kernel_rfl) (fun _ => rfl) girolaw21_SettleEnds_ev

end Go.Ab.Gi
