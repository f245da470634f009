/- The shallow functions are what the program does, printed (abprint.py). -/
import Derived.Test.YtdlamiafpciphaaGiXRa
set_option linter.unusedVariables false
set_option maxRecDepth 100000
namespace Go.Ab.Gi

/-! ### giro/giroref13.Drop -/
noncomputable def E91q : Env := ⟨Proofs.Try.prog, fun _ => false, sumsOf [R1q]⟩
def A91q : Notes := ⟨[], []⟩
theorem Eo91q : EnvOK E91q := ⟨eqOK_none, sumsOf_ok (List.forall_mem_cons.2 ⟨Ro1q, List.forall_mem_nil _⟩)⟩
theorem El91q : SumsLocal E91q.sums := sumsOf_local (List.forall_mem_cons.2 ⟨Rl1q, List.forall_mem_nil _⟩)
def as91q : List AS := [.c (.dat true y7q), .c (.int .i64)]
def rs91q : RS := .tup [(false, [.fro y7q]), (true, [.int .i64, .int .i64, .int .i64, .int .i64, .int .i64, .int .i64, .int .i64]), (false, [.int .i64])]
def pk91q : (List K1q) × Int × Int × Int × Int × Int × Int × Int × Int → RL rs91q.cells := fun x => (x.1, x.2.1, x.2.2.1, x.2.2.2.1, x.2.2.2.2.1, x.2.2.2.2.2.1, x.2.2.2.2.2.2.1, x.2.2.2.2.2.2.2.1, x.2.2.2.2.2.2.2.2, ())
def up91q : RL rs91q.cells → (List K1q) × Int × Int × Int × Int × Int × Int × Int × Int := fun d => (d.1, d.2.1, d.2.2.1, d.2.2.2.1, d.2.2.2.2.1, d.2.2.2.2.2.1, d.2.2.2.2.2.2.1, d.2.2.2.2.2.2.2.1, d.2.2.2.2.2.2.2.2.1)
def R91q : Nat × Entry := (55, fun k nm args h => entry as91q rs91q (fun d => giroref13_Drop k d.1 d.2.1) pk91q nm args h)
theorem ev91q (k : Nat) (d : AD as91q) : evF E91q A91q k 1000 0 Proofs.Try.f55 (absArgs as91q d).1 (absArgs as91q d).2 (outM rs91q up91q) = giroref13_Drop k d.1 d.2.1 := by
  obtain ⟨_, _, _⟩ := d
  kernel_rfl
theorem Ro91q : EntryOK Proofs.Try.prog R91q := fun k _ _ _ _ _ hy =>
  entry_sound (unpack := up91q) (A := A91q) (k := k) (pre := 1000) (na := 0) (E := E91q) Eo91q El91q mixed_orders (f := 55) (fn := Proofs.Try.f55) (by kernel_rfl) (body_loops (loopsOK_none (by kernel_rfl))) (enters (fn := Proofs.Try.f55) (by kernel_rfl) (by kernel_rfl) (by kernel_rfl)) (fun _ => rfl) (ev91q k) hy
theorem Rl91q : EntryLocal R91q.2 := entry_local (S := fun k (d : AD as91q) => giroref13_Drop k d.1 d.2.1)

/-! ### giro/giroref20.Run -/
noncomputable def E92q : Env := ⟨Proofs.Try.prog, fun _ => false, sumsOf [R44q, R35q, R37q, R90q, R91q]⟩
def I92_0q : Spec := ⟨[(1, .c (.dat true y7q)), (6, .c (.lit (.ptr 1001000 0))), (11, .c (.lit (.osl 1001001 none))), (12, .c (.lit (.ptr 1001002 0))), (14, .c (.int .i64))], [.box true [.lit .nsl, .lit .nsl, .lit .nsl, .lit .nsl], .arr true y7q, .box true [.dat true y3q, .dat true (.sl (.int .i64)), .dat true (.int .i64), .dat true (.sl (.int .i64))]], []⟩
def X0_92_0q : Spec := ⟨[(1, .c (.dat true y7q)), (6, .c (.lit (.ptr 1001000 0))), (11, .c (.lit (.osl 1001001 none))), (12, .c (.lit (.ptr 1001002 0)))], [.box true [.lit .nsl, .lit .nsl, .lit .nsl, .lit .nsl], .arr true y7q, .box true [.dat true y3q, .dat true (.sl (.int .i64)), .dat true (.int .i64), .dat true (.sl (.int .i64))]], []⟩
def O92_0q : List (Ex × Spec) := [(.exit 0, X0_92_0q)]
abbrev Z92_0q : Type := (List K1q) × (List K1q) × (List K2q) × (List (List Int)) × (List Int) × (List (List Int))
def c92_0q (f : List K1q → Int → List K1q → List K2q → List (List Int) → List Int → List (List Int) → Option Z92_0q) (d : I92_0q.den) : Option Z92_0q := f d.1.1.1 d.1.2.2.2.2.1.1 d.2.2.1 d.2.2.2.1.1 d.2.2.2.1.2.1 d.2.2.2.1.2.2.1 d.2.2.2.1.2.2.2.1
def T92_0q : OutD O92_0q → Z92_0q := fun d => (d.1.1.1, d.2.2.1, d.2.2.2.1.1, d.2.2.2.1.2.1, d.2.2.2.1.2.2.1, d.2.2.2.1.2.2.2.1)
def e92_0q (base : Nat) (x : Z92_0q) (R : Type) (K : Ex → St → Option R) : Option R := K (.exit 0) (stOf base X0_92_0q (((x.1, ()), (), (), (), ()), ((), x.2.1, (x.2.2.1, x.2.2.2.1, x.2.2.2.2.1, x.2.2.2.2.2, ()), ())))
def L92_0q : LoopSum := ⟨I92_0q, O92_0q, Z92_0q, fun k d => c92_0q (giroref20_Run_L0 k k) d, e92_0q⟩
def A92q : Notes := ⟨[], [(7, L92_0q)]⟩
theorem Eo92q : EnvOK E92q := ⟨eqOK_none, sumsOf_ok (List.forall_mem_cons.2 ⟨Ro44q, List.forall_mem_cons.2 ⟨Ro35q, List.forall_mem_cons.2 ⟨Ro37q, List.forall_mem_cons.2 ⟨Ro90q, List.forall_mem_cons.2 ⟨Ro91q, List.forall_mem_nil _⟩⟩⟩⟩⟩)⟩
theorem El92q : SumsLocal E92q.sums := sumsOf_local (List.forall_mem_cons.2 ⟨Rl44q, List.forall_mem_cons.2 ⟨Rl35q, List.forall_mem_cons.2 ⟨Rl37q, List.forall_mem_cons.2 ⟨Rl90q, List.forall_mem_cons.2 ⟨Rl91q, List.forall_mem_nil _⟩⟩⟩⟩⟩)
theorem st92_0q (k : Nat) (rec : List K1q → Int → List K1q → List K2q → List (List Int) → List Int → List (List Int) → Option Z92_0q) (d : I92_0q.den) : c92_0q (giroref20_Run_L0b k rec) d = evC E92q A92q k 1000 0 57 (loopAt (bodyOf Proofs.Try.f18) 0) (stOf (1000 + loopBase) I92_0q d) (roundK 1000 I92_0q O92_0q T92_0q (c92_0q rec)) := by
  obtain ⟨⟨⟨_, _⟩, _, _, _, ⟨_, _⟩, _⟩, ⟨_, _, ⟨_, _, _, _, _⟩, _⟩⟩ := d
  kernel_rfl
theorem lk92_0q : LoopOK Proofs.Try.prog 1000 0 57 (loopAt (bodyOf Proofs.Try.f18) 0) L92_0q :=
  loop_sound (A := A92q) (inS := I92_0q) (outs := O92_0q) Eo92q El92q mixed_orders (loopsOK_none (by kernel_rfl)) T92_0q e92_0q (fun _ _ _ => rfl) (fun k n d => c92_0q (giroref20_Run_L0 k n) d) (fun _ _ => rfl) (fun k n d => st92_0q k (giroref20_Run_L0 k n) d)
def as92q : List AS := [.agg [.dat true y3q, .dat true (.sl (.int .i64)), .dat true (.int .i64), .dat true (.sl (.int .i64))], .c (.dat true y7q), .c (.int .i64)]
def rs92q : RS := .tup [(true, [.fro y3q, .fro (.sl (.int .i64)), .fro (.int .i64), .fro (.sl (.int .i64))]), (false, [.fro y7q]), (false, [.own y7q])]
def pk92q : (List K2q) × (List (List Int)) × (List Int) × (List (List Int)) × (List K1q) × (List K1q) → RL rs92q.cells := fun x => (x.1, x.2.1, x.2.2.1, x.2.2.2.1, x.2.2.2.2.1, x.2.2.2.2.2, ())
def up92q : RL rs92q.cells → (List K2q) × (List (List Int)) × (List Int) × (List (List Int)) × (List K1q) × (List K1q) := fun d => (d.1, d.2.1, d.2.2.1, d.2.2.2.1, d.2.2.2.2.1, d.2.2.2.2.2.1)
def R92q : Nat × Entry := (18, fun k nm args h => entry as92q rs92q (fun d => giroref20_Run k d.1 d.2.1 d.2.2.1 d.2.2.2.1 d.2.2.2.2.1 d.2.2.2.2.2.1) pk92q nm args h)
theorem ev92q (k : Nat) (d : AD as92q) : evF E92q A92q k 1000 0 Proofs.Try.f18 (absArgs as92q d).1 (absArgs as92q d).2 (outM rs92q up92q) = giroref20_Run k d.1 d.2.1 d.2.2.1 d.2.2.2.1 d.2.2.2.2.1 d.2.2.2.2.2.1 := by
  obtain ⟨_, _, _, _, _, _, _⟩ := d
  kernel_rfl
theorem Ro92q : EntryOK Proofs.Try.prog R92q := fun k _ _ _ _ _ hy =>
  entry_sound (unpack := up92q) (A := A92q) (k := k) (pre := 1000) (na := 0) (E := E92q) Eo92q El92q mixed_orders (f := 18) (fn := Proofs.Try.f18) (by kernel_rfl) (body_loops (loopsOK_of (n := 1) (by kernel_rfl) fun i hi => match i, hi with | 0, _ => ⟨L92_0q, by kernel_rfl, lk92_0q⟩ | i + 1, hi => absurd hi (by omega))) (enters (fn := Proofs.Try.f18) (by kernel_rfl) (by kernel_rfl) (by kernel_rfl)) (fun _ => rfl) (ev92q k) hy
theorem Rl92q : EntryLocal R92q.2 := entry_local (S := fun k (d : AD as92q) => giroref20_Run k d.1 d.2.1 d.2.2.1 d.2.2.2.1 d.2.2.2.2.1 d.2.2.2.2.2.1)

/-! ### giro/giroref2.Same -/
noncomputable def E93q : Env := ⟨Proofs.Try.prog, fun _ => false, sumsOf []⟩
def I93_0q : Spec := ⟨[(0, .c (.dat false (.int .i64))), (1, .c (.dat false (.int .i64))), (5, .c (.int .i64))], [], []⟩
def X0_93_0q : Spec := ⟨[], [], []⟩
def X1_93_0q : Spec := ⟨[(4, .c (.bool))], [], []⟩
def O93_0q : List (Ex × Spec) := [(.exit 0, X0_93_0q), (.ret, X1_93_0q)]
abbrev Z93_0q : Type := Unit ⊕ Bool
def c93_0q (f : List Int → List Int → Int → Option Z93_0q) (d : I93_0q.den) : Option Z93_0q := f d.1.1.1 d.1.2.1.1 d.1.2.2.1.1
def T93_0q : OutD O93_0q → Z93_0q
 | .inl d => .inl ()
 | .inr d => .inr d.1.1.1
def e93_0q (base : Nat) (x : Z93_0q) (R : Type) (K : Ex → St → Option R) : Option R := match x with
 | .inl x => K (.exit 0) (stOf base X0_93_0q ((), ()))
 | .inr x => K .ret (stOf base X1_93_0q (((x, ()), ()), ()))
def L93_0q : LoopSum := ⟨I93_0q, O93_0q, Z93_0q, fun k d => c93_0q (giroref2_Same_L0 k k) d, e93_0q⟩
def A93q : Notes := ⟨[], [(4, L93_0q)]⟩
theorem Eo93q : EnvOK E93q := ⟨eqOK_none, sumsOf_ok (List.forall_mem_nil _)⟩
theorem El93q : SumsLocal E93q.sums := sumsOf_local (List.forall_mem_nil _)
theorem st93_0q (k : Nat) (rec : List Int → List Int → Int → Option Z93_0q) (d : I93_0q.den) : c93_0q (giroref2_Same_L0b k rec) d = evC E93q A93q k 1000 0 26 (loopAt (bodyOf Proofs.Try.f67) 0) (stOf (1000 + loopBase) I93_0q d) (roundK 1000 I93_0q O93_0q T93_0q (c93_0q rec)) := by
  obtain ⟨⟨⟨_, _⟩, ⟨_, _⟩, ⟨_, _⟩, _⟩, _⟩ := d
  kernel_rfl
theorem lk93_0q : LoopOK Proofs.Try.prog 1000 0 26 (loopAt (bodyOf Proofs.Try.f67) 0) L93_0q :=
  loop_sound (A := A93q) (inS := I93_0q) (outs := O93_0q) Eo93q El93q mixed_orders (loopsOK_none (by kernel_rfl)) T93_0q e93_0q (by intro o R K; rcases o with o | o <;> rfl) (fun k n d => c93_0q (giroref2_Same_L0 k n) d) (fun _ _ => rfl) (fun k n d => st93_0q k (giroref2_Same_L0 k n) d)
def as93q : List AS := [.c (.dat false (.int .i64)), .c (.dat false (.int .i64))]
def rs93q : RS := .c (.bool)
def pk93q : Bool → RL rs93q.cells := fun x => (x, ())
def up93q : RL rs93q.cells → Bool := fun d => d.1
def R93q : Nat × Entry := (67, fun k nm args h => entry as93q rs93q (fun d => giroref2_Same k d.1 d.2.1) pk93q nm args h)
theorem ev93q (k : Nat) (d : AD as93q) : evF E93q A93q k 1000 0 Proofs.Try.f67 (absArgs as93q d).1 (absArgs as93q d).2 (outM rs93q up93q) = giroref2_Same k d.1 d.2.1 := by
  obtain ⟨_, _, _⟩ := d
  kernel_rfl
theorem Ro93q : EntryOK Proofs.Try.prog R93q := fun k _ _ _ _ _ hy =>
  entry_sound (unpack := up93q) (A := A93q) (k := k) (pre := 1000) (na := 0) (E := E93q) Eo93q El93q mixed_orders (f := 67) (fn := Proofs.Try.f67) (by kernel_rfl) (body_loops (loopsOK_of (n := 1) (by kernel_rfl) fun i hi => match i, hi with | 0, _ => ⟨L93_0q, by kernel_rfl, lk93_0q⟩ | i + 1, hi => absurd hi (by omega))) (enters (fn := Proofs.Try.f67) (by kernel_rfl) (by kernel_rfl) (by kernel_rfl)) (fun _ => rfl) (ev93q k) hy
theorem Rl93q : EntryLocal R93q.2 := entry_local (S := fun k (d : AD as93q) => giroref2_Same k d.1 d.2.1)

/-! ### giro/giroref10.Rows -/
noncomputable def E94q : Env := ⟨Proofs.Try.prog, fun _ => false, sumsOf [R93q]⟩
def I94_0q : Spec := ⟨[(0, .c (.dat false (.sl (.int .i64)))), (1, .c (.dat false (.sl (.int .i64)))), (5, .c (.int .i64))], [], []⟩
def X0_94_0q : Spec := ⟨[], [], []⟩
def X1_94_0q : Spec := ⟨[(4, .c (.bool))], [], []⟩
def O94_0q : List (Ex × Spec) := [(.exit 0, X0_94_0q), (.ret, X1_94_0q)]
abbrev Z94_0q : Type := Unit ⊕ Bool
def c94_0q (f : List (List Int) → List (List Int) → Int → Option Z94_0q) (d : I94_0q.den) : Option Z94_0q := f d.1.1.1 d.1.2.1.1 d.1.2.2.1.1
def T94_0q : OutD O94_0q → Z94_0q
 | .inl d => .inl ()
 | .inr d => .inr d.1.1.1
def e94_0q (base : Nat) (x : Z94_0q) (R : Type) (K : Ex → St → Option R) : Option R := match x with
 | .inl x => K (.exit 0) (stOf base X0_94_0q ((), ()))
 | .inr x => K .ret (stOf base X1_94_0q (((x, ()), ()), ()))
def L94_0q : LoopSum := ⟨I94_0q, O94_0q, Z94_0q, fun k d => c94_0q (giroref10_Rows_L0 k k) d, e94_0q⟩
def A94q : Notes := ⟨[], [(4, L94_0q)]⟩
theorem Eo94q : EnvOK E94q := ⟨eqOK_none, sumsOf_ok (List.forall_mem_cons.2 ⟨Ro93q, List.forall_mem_nil _⟩)⟩
theorem El94q : SumsLocal E94q.sums := sumsOf_local (List.forall_mem_cons.2 ⟨Rl93q, List.forall_mem_nil _⟩)
theorem st94_0q (k : Nat) (rec : List (List Int) → List (List Int) → Int → Option Z94_0q) (d : I94_0q.den) : c94_0q (giroref10_Rows_L0b k rec) d = evC E94q A94q k 1000 0 27 (loopAt (bodyOf Proofs.Try.f66) 0) (stOf (1000 + loopBase) I94_0q d) (roundK 1000 I94_0q O94_0q T94_0q (c94_0q rec)) := by
  obtain ⟨⟨⟨_, _⟩, ⟨_, _⟩, ⟨_, _⟩, _⟩, _⟩ := d
  kernel_rfl
theorem lk94_0q : LoopOK Proofs.Try.prog 1000 0 27 (loopAt (bodyOf Proofs.Try.f66) 0) L94_0q :=
  loop_sound (A := A94q) (inS := I94_0q) (outs := O94_0q) Eo94q El94q mixed_orders (loopsOK_none (by kernel_rfl)) T94_0q e94_0q (by intro o R K; rcases o with o | o <;> rfl) (fun k n d => c94_0q (giroref10_Rows_L0 k n) d) (fun _ _ => rfl) (fun k n d => st94_0q k (giroref10_Rows_L0 k n) d)
def as94q : List AS := [.c (.dat false (.sl (.int .i64))), .c (.dat false (.sl (.int .i64)))]
def rs94q : RS := .c (.bool)
def pk94q : Bool → RL rs94q.cells := fun x => (x, ())
def up94q : RL rs94q.cells → Bool := fun d => d.1
def R94q : Nat × Entry := (66, fun k nm args h => entry as94q rs94q (fun d => giroref10_Rows k d.1 d.2.1) pk94q nm args h)
theorem ev94q (k : Nat) (d : AD as94q) : evF E94q A94q k 1000 0 Proofs.Try.f66 (absArgs as94q d).1 (absArgs as94q d).2 (outM rs94q up94q) = giroref10_Rows k d.1 d.2.1 := by
  obtain ⟨_, _, _⟩ := d
  kernel_rfl
theorem Ro94q : EntryOK Proofs.Try.prog R94q := fun k _ _ _ _ _ hy =>
  entry_sound (unpack := up94q) (A := A94q) (k := k) (pre := 1000) (na := 0) (E := E94q) Eo94q El94q mixed_orders (f := 66) (fn := Proofs.Try.f66) (by kernel_rfl) (body_loops (loopsOK_of (n := 1) (by kernel_rfl) fun i hi => match i, hi with | 0, _ => ⟨L94_0q, by kernel_rfl, lk94_0q⟩ | i + 1, hi => absurd hi (by omega))) (enters (fn := Proofs.Try.f66) (by kernel_rfl) (by kernel_rfl) (by kernel_rfl)) (fun _ => rfl) (ev94q k) hy
theorem Rl94q : EntryLocal R94q.2 := entry_local (S := fun k (d : AD as94q) => giroref10_Rows k d.1 d.2.1)

/-! ### giro/giroref10.Same -/
noncomputable def E95q : Env := ⟨Proofs.Try.prog, fun t => [53].any (Nat.beq t), sumsOf [R94q, R93q]⟩
def I95_0q : Spec := ⟨[(2, .c (.lit (.ptr 1001000 0))), (3, .c (.lit (.ptr 1001001 0))), (5, .c (.int .i64))], [.box true [.dat false y3q, .dat false (.sl (.int .i64)), .dat false (.int .i64), .dat false (.sl (.int .i64))], .box true [.dat false y3q, .dat false (.sl (.int .i64)), .dat false (.int .i64), .dat false (.sl (.int .i64))]], []⟩
def X0_95_0q : Spec := ⟨[], [], []⟩
def X1_95_0q : Spec := ⟨[(4, .c (.bool))], [], []⟩
def O95_0q : List (Ex × Spec) := [(.exit 0, X0_95_0q), (.ret, X1_95_0q)]
abbrev Z95_0q : Type := Unit ⊕ Bool
def c95_0q (f : Int → List K2q → List (List Int) → List Int → List (List Int) → List K2q → List (List Int) → List Int → List (List Int) → Option Z95_0q) (d : I95_0q.den) : Option Z95_0q := f d.1.2.2.1.1 d.2.1.1 d.2.1.2.1 d.2.1.2.2.1 d.2.1.2.2.2.1 d.2.2.1.1 d.2.2.1.2.1 d.2.2.1.2.2.1 d.2.2.1.2.2.2.1
def T95_0q : OutD O95_0q → Z95_0q
 | .inl d => .inl ()
 | .inr d => .inr d.1.1.1
def e95_0q (base : Nat) (x : Z95_0q) (R : Type) (K : Ex → St → Option R) : Option R := match x with
 | .inl x => K (.exit 0) (stOf base X0_95_0q ((), ()))
 | .inr x => K .ret (stOf base X1_95_0q (((x, ()), ()), ()))
def L95_0q : LoopSum := ⟨I95_0q, O95_0q, Z95_0q, fun k d => c95_0q (giroref10_Same_L0 k k) d, e95_0q⟩
def A95q : Notes := ⟨[], [(4, L95_0q)]⟩
theorem Eo95q : EnvOK E95q := ⟨eqOK_flat (fun t h => eqT_mem (p := fun t => Proofs.Try.prog.keyTypeAt 8 t && !Proofs.Try.prog.eqGuardType Proofs.Try.prog.depth t) (l := [53]) (List.forall_mem_cons.2 ⟨by kernel_rfl, List.forall_mem_nil _⟩) t h), sumsOf_ok (List.forall_mem_cons.2 ⟨Ro94q, List.forall_mem_cons.2 ⟨Ro93q, List.forall_mem_nil _⟩⟩)⟩
theorem El95q : SumsLocal E95q.sums := sumsOf_local (List.forall_mem_cons.2 ⟨Rl94q, List.forall_mem_cons.2 ⟨Rl93q, List.forall_mem_nil _⟩⟩)
theorem st95_0q (k : Nat) (rec : Int → List K2q → List (List Int) → List Int → List (List Int) → List K2q → List (List Int) → List Int → List (List Int) → Option Z95_0q) (d : I95_0q.den) : c95_0q (giroref10_Same_L0b k rec) d = evC E95q A95q k 1000 0 55 (loopAt (bodyOf Proofs.Try.f29) 0) (stOf (1000 + loopBase) I95_0q d) (roundK 1000 I95_0q O95_0q T95_0q (c95_0q rec)) := by
  obtain ⟨⟨_, _, ⟨_, _⟩, _⟩, ⟨⟨_, _, _, _, _⟩, ⟨_, _, _, _, _⟩, _⟩⟩ := d
  kernel_rfl
theorem lk95_0q : LoopOK Proofs.Try.prog 1000 0 55 (loopAt (bodyOf Proofs.Try.f29) 0) L95_0q :=
  loop_sound (A := A95q) (inS := I95_0q) (outs := O95_0q) Eo95q El95q mixed_orders (loopsOK_none (by kernel_rfl)) T95_0q e95_0q (by intro o R K; rcases o with o | o <;> rfl) (fun k n d => c95_0q (giroref10_Same_L0 k n) d) (fun _ _ => rfl) (fun k n d => st95_0q k (giroref10_Same_L0 k n) d)
def as95q : List AS := [.agg [.dat false y3q, .dat false (.sl (.int .i64)), .dat false (.int .i64), .dat false (.sl (.int .i64))], .agg [.dat false y3q, .dat false (.sl (.int .i64)), .dat false (.int .i64), .dat false (.sl (.int .i64))]]
def rs95q : RS := .c (.bool)
def pk95q : Bool → RL rs95q.cells := fun x => (x, ())
def up95q : RL rs95q.cells → Bool := fun d => d.1
def R95q : Nat × Entry := (29, fun k nm args h => entry as95q rs95q (fun d => giroref10_Same k d.1 d.2.1 d.2.2.1 d.2.2.2.1 d.2.2.2.2.1 d.2.2.2.2.2.1 d.2.2.2.2.2.2.1 d.2.2.2.2.2.2.2.1) pk95q nm args h)
theorem ev95q (k : Nat) (d : AD as95q) : evF E95q A95q k 1000 0 Proofs.Try.f29 (absArgs as95q d).1 (absArgs as95q d).2 (outM rs95q up95q) = giroref10_Same k d.1 d.2.1 d.2.2.1 d.2.2.2.1 d.2.2.2.2.1 d.2.2.2.2.2.1 d.2.2.2.2.2.2.1 d.2.2.2.2.2.2.2.1 := by
  obtain ⟨_, _, _, _, _, _, _, _, _⟩ := d
  kernel_rfl
theorem Ro95q : EntryOK Proofs.Try.prog R95q := fun k _ _ _ _ _ hy =>
  entry_sound (unpack := up95q) (A := A95q) (k := k) (pre := 1000) (na := 0) (E := E95q) Eo95q El95q mixed_orders (f := 29) (fn := Proofs.Try.f29) (by kernel_rfl) (body_loops (loopsOK_of (n := 1) (by kernel_rfl) fun i hi => match i, hi with | 0, _ => ⟨L95_0q, by kernel_rfl, lk95_0q⟩ | i + 1, hi => absurd hi (by omega))) (enters (fn := Proofs.Try.f29) (by kernel_rfl) (by kernel_rfl) (by kernel_rfl)) (fun _ => rfl) (ev95q k) hy
theorem Rl95q : EntryLocal R95q.2 := entry_local (S := fun k (d : AD as95q) => giroref10_Same k d.1 d.2.1 d.2.2.1 d.2.2.2.1 d.2.2.2.2.1 d.2.2.2.2.2.1 d.2.2.2.2.2.2.1 d.2.2.2.2.2.2.2.1)

/-! ### giro/giroref11.Same -/
noncomputable def E96q : Env := ⟨Proofs.Try.prog, fun t => [51].any (Nat.beq t), sumsOf []⟩
def I96_0q : Spec := ⟨[(0, .c (.dat false y7q)), (1, .c (.dat false y7q)), (5, .c (.int .i64))], [], []⟩
def X0_96_0q : Spec := ⟨[], [], []⟩
def X1_96_0q : Spec := ⟨[(4, .c (.bool))], [], []⟩
def O96_0q : List (Ex × Spec) := [(.exit 0, X0_96_0q), (.ret, X1_96_0q)]
abbrev Z96_0q : Type := Unit ⊕ Bool
def c96_0q (f : List K1q → List K1q → Int → Option Z96_0q) (d : I96_0q.den) : Option Z96_0q := f d.1.1.1 d.1.2.1.1 d.1.2.2.1.1
def T96_0q : OutD O96_0q → Z96_0q
 | .inl d => .inl ()
 | .inr d => .inr d.1.1.1
def e96_0q (base : Nat) (x : Z96_0q) (R : Type) (K : Ex → St → Option R) : Option R := match x with
 | .inl x => K (.exit 0) (stOf base X0_96_0q ((), ()))
 | .inr x => K .ret (stOf base X1_96_0q (((x, ()), ()), ()))
def L96_0q : LoopSum := ⟨I96_0q, O96_0q, Z96_0q, fun k d => c96_0q (giroref11_Same_L0 k k) d, e96_0q⟩
def A96q : Notes := ⟨[], [(4, L96_0q)]⟩
theorem Eo96q : EnvOK E96q := ⟨eqOK_flat (fun t h => eqT_mem (p := fun t => Proofs.Try.prog.keyTypeAt 8 t && !Proofs.Try.prog.eqGuardType Proofs.Try.prog.depth t) (l := [51]) (List.forall_mem_cons.2 ⟨by kernel_rfl, List.forall_mem_nil _⟩) t h), sumsOf_ok (List.forall_mem_nil _)⟩
theorem El96q : SumsLocal E96q.sums := sumsOf_local (List.forall_mem_nil _)
theorem st96_0q (k : Nat) (rec : List K1q → List K1q → Int → Option Z96_0q) (d : I96_0q.den) : c96_0q (giroref11_Same_L0b k rec) d = evC E96q A96q k 1000 0 26 (loopAt (bodyOf Proofs.Try.f30) 0) (stOf (1000 + loopBase) I96_0q d) (roundK 1000 I96_0q O96_0q T96_0q (c96_0q rec)) := by
  obtain ⟨⟨⟨_, _⟩, ⟨_, _⟩, ⟨_, _⟩, _⟩, _⟩ := d
  kernel_rfl
theorem lk96_0q : LoopOK Proofs.Try.prog 1000 0 26 (loopAt (bodyOf Proofs.Try.f30) 0) L96_0q :=
  loop_sound (A := A96q) (inS := I96_0q) (outs := O96_0q) Eo96q El96q mixed_orders (loopsOK_none (by kernel_rfl)) T96_0q e96_0q (by intro o R K; rcases o with o | o <;> rfl) (fun k n d => c96_0q (giroref11_Same_L0 k n) d) (fun _ _ => rfl) (fun k n d => st96_0q k (giroref11_Same_L0 k n) d)
def as96q : List AS := [.c (.dat false y7q), .c (.dat false y7q)]
def rs96q : RS := .c (.bool)
def pk96q : Bool → RL rs96q.cells := fun x => (x, ())
def up96q : RL rs96q.cells → Bool := fun d => d.1
def R96q : Nat × Entry := (30, fun k nm args h => entry as96q rs96q (fun d => giroref11_Same k d.1 d.2.1) pk96q nm args h)
theorem ev96q (k : Nat) (d : AD as96q) : evF E96q A96q k 1000 0 Proofs.Try.f30 (absArgs as96q d).1 (absArgs as96q d).2 (outM rs96q up96q) = giroref11_Same k d.1 d.2.1 := by
  obtain ⟨_, _, _⟩ := d
  kernel_rfl
theorem Ro96q : EntryOK Proofs.Try.prog R96q := fun k _ _ _ _ _ hy =>
  entry_sound (unpack := up96q) (A := A96q) (k := k) (pre := 1000) (na := 0) (E := E96q) Eo96q El96q mixed_orders (f := 30) (fn := Proofs.Try.f30) (by kernel_rfl) (body_loops (loopsOK_of (n := 1) (by kernel_rfl) fun i hi => match i, hi with | 0, _ => ⟨L96_0q, by kernel_rfl, lk96_0q⟩ | i + 1, hi => absurd hi (by omega))) (enters (fn := Proofs.Try.f30) (by kernel_rfl) (by kernel_rfl) (by kernel_rfl)) (fun _ => rfl) (ev96q k) hy
theorem Rl96q : EntryLocal R96q.2 := entry_local (S := fun k (d : AD as96q) => giroref11_Same k d.1 d.2.1)

/-! ### giro/girolaw20.same -/
noncomputable def E97q : Env := ⟨Proofs.Try.prog, fun _ => false, sumsOf [R95q, R96q]⟩
def A97q : Notes := ⟨[], []⟩
theorem Eo97q : EnvOK E97q := ⟨eqOK_none, sumsOf_ok (List.forall_mem_cons.2 ⟨Ro95q, List.forall_mem_cons.2 ⟨Ro96q, List.forall_mem_nil _⟩⟩)⟩
theorem El97q : SumsLocal E97q.sums := sumsOf_local (List.forall_mem_cons.2 ⟨Rl95q, List.forall_mem_cons.2 ⟨Rl96q, List.forall_mem_nil _⟩⟩)
def as97q : List AS := [.agg [.dat false y3q, .dat false (.sl (.int .i64)), .dat false (.int .i64), .dat false (.sl (.int .i64))], .c (.dat false y7q), .c (.dat false y7q), .agg [.dat false y3q, .dat false (.sl (.int .i64)), .dat false (.int .i64), .dat false (.sl (.int .i64))], .c (.dat false y7q), .c (.dat false y7q)]
def rs97q : RS := .c (.bool)
def pk97q : Bool → RL rs97q.cells := fun x => (x, ())
def up97q : RL rs97q.cells → Bool := fun d => d.1
def R97q : Nat × Entry := (19, fun k nm args h => entry as97q rs97q (fun d => girolaw20_same k d.1 d.2.1 d.2.2.1 d.2.2.2.1 d.2.2.2.2.1 d.2.2.2.2.2.1 d.2.2.2.2.2.2.1 d.2.2.2.2.2.2.2.1 d.2.2.2.2.2.2.2.2.1 d.2.2.2.2.2.2.2.2.2.1 d.2.2.2.2.2.2.2.2.2.2.1 d.2.2.2.2.2.2.2.2.2.2.2.1) pk97q nm args h)
theorem ev97q (k : Nat) (d : AD as97q) : evF E97q A97q k 1000 0 Proofs.Try.f19 (absArgs as97q d).1 (absArgs as97q d).2 (outM rs97q up97q) = girolaw20_same k d.1 d.2.1 d.2.2.1 d.2.2.2.1 d.2.2.2.2.1 d.2.2.2.2.2.1 d.2.2.2.2.2.2.1 d.2.2.2.2.2.2.2.1 d.2.2.2.2.2.2.2.2.1 d.2.2.2.2.2.2.2.2.2.1 d.2.2.2.2.2.2.2.2.2.2.1 d.2.2.2.2.2.2.2.2.2.2.2.1 := by
  obtain ⟨_, _, _, _, _, _, _, _, _, _, _, _, _⟩ := d
  kernel_rfl
theorem Ro97q : EntryOK Proofs.Try.prog R97q := fun k _ _ _ _ _ hy =>
  entry_sound (unpack := up97q) (A := A97q) (k := k) (pre := 1000) (na := 0) (E := E97q) Eo97q El97q mixed_orders (f := 19) (fn := Proofs.Try.f19) (by kernel_rfl) (body_loops (loopsOK_none (by kernel_rfl))) (enters (fn := Proofs.Try.f19) (by kernel_rfl) (by kernel_rfl) (by kernel_rfl)) (fun _ => rfl) (ev97q k) hy
theorem Rl97q : EntryLocal R97q.2 := entry_local (S := fun k (d : AD as97q) => girolaw20_same k d.1 d.2.1 d.2.2.1 d.2.2.2.1 d.2.2.2.2.1 d.2.2.2.2.2.1 d.2.2.2.2.2.2.1 d.2.2.2.2.2.2.2.1 d.2.2.2.2.2.2.2.2.1 d.2.2.2.2.2.2.2.2.2.1 d.2.2.2.2.2.2.2.2.2.2.1 d.2.2.2.2.2.2.2.2.2.2.2.1)

/-! ### giro/girolaw20.ring -/
noncomputable def E98q : Env := ⟨Proofs.Try.prog, fun _ => false, sumsOf []⟩
def I98_0q : Spec := ⟨[(0, .c (.int .i64)), (3, .c (.lit (.osl 1001000 none))), (4, .c (.int .i64))], [.arr true y7q], [(3, none, y7q, false)]⟩
def X0_98_0q : Spec := ⟨[(3, .c (.lit (.osl 1001000 none)))], [.arr true y7q], []⟩
def O98_0q : List (Ex × Spec) := [(.exit 0, X0_98_0q)]
abbrev Z98_0q : Type := List K1q
def c98_0q (f : Int → Int → List K1q → Option Z98_0q) (d : I98_0q.den) : Option Z98_0q := f d.1.1.1 d.1.2.2.1.1 d.2.1
def T98_0q : OutD O98_0q → Z98_0q := fun d => d.2.1
def e98_0q (base : Nat) (x : Z98_0q) (R : Type) (K : Ex → St → Option R) : Option R := K (.exit 0) (stOf base X0_98_0q (((), ()), (x, ())))
def L98_0q : LoopSum := ⟨I98_0q, O98_0q, Z98_0q, fun k d => c98_0q (girolaw20_ring_L0 k k) d, e98_0q⟩
def A98q : Notes := ⟨[], [(3, L98_0q)]⟩
theorem Eo98q : EnvOK E98q := ⟨eqOK_none, sumsOf_ok (List.forall_mem_nil _)⟩
theorem El98q : SumsLocal E98q.sums := sumsOf_local (List.forall_mem_nil _)
theorem st98_0q (k : Nat) (rec : Int → Int → List K1q → Option Z98_0q) (d : I98_0q.den) : c98_0q (girolaw20_ring_L0b k rec) d = evC E98q A98q k 1000 0 21 (loopAt (bodyOf Proofs.Try.f31) 0) (stOf (1000 + loopBase) I98_0q d) (roundK 1000 I98_0q O98_0q T98_0q (c98_0q rec)) := by
  obtain ⟨⟨⟨_, _⟩, _, ⟨_, _⟩, _⟩, ⟨_, _⟩⟩ := d
  kernel_rfl
theorem lk98_0q : LoopOK Proofs.Try.prog 1000 0 21 (loopAt (bodyOf Proofs.Try.f31) 0) L98_0q :=
  loop_sound (A := A98q) (inS := I98_0q) (outs := O98_0q) Eo98q El98q mixed_orders (loopsOK_none (by kernel_rfl)) T98_0q e98_0q (fun _ _ _ => rfl) (fun k n d => c98_0q (girolaw20_ring_L0 k n) d) (fun _ _ => rfl) (fun k n d => st98_0q k (girolaw20_ring_L0 k n) d)
def as98q : List AS := [.c (.int .i64)]
def rs98q : RS := .c (.own y7q)
def pk98q : List K1q → RL rs98q.cells := fun x => (x, ())
def up98q : RL rs98q.cells → List K1q := fun d => d.1
def R98q : Nat × Entry := (31, fun k nm args h => entry as98q rs98q (fun d => girolaw20_ring k d.1) pk98q nm args h)
theorem ev98q (k : Nat) (d : AD as98q) : evF E98q A98q k 1000 0 Proofs.Try.f31 (absArgs as98q d).1 (absArgs as98q d).2 (outM rs98q up98q) = girolaw20_ring k d.1 := by
  obtain ⟨_, _⟩ := d
  kernel_rfl
theorem Ro98q : EntryOK Proofs.Try.prog R98q := fun k _ _ _ _ _ hy =>
  entry_sound (unpack := up98q) (A := A98q) (k := k) (pre := 1000) (na := 0) (E := E98q) Eo98q El98q mixed_orders (f := 31) (fn := Proofs.Try.f31) (by kernel_rfl) (body_loops (loopsOK_of (n := 1) (by kernel_rfl) fun i hi => match i, hi with | 0, _ => ⟨L98_0q, by kernel_rfl, lk98_0q⟩ | i + 1, hi => absurd hi (by omega))) (enters (fn := Proofs.Try.f31) (by kernel_rfl) (by kernel_rfl) (by kernel_rfl)) (fun _ => rfl) (ev98q k) hy
theorem Rl98q : EntryLocal R98q.2 := entry_local (S := fun k (d : AD as98q) => girolaw20_ring k d.1)

/-! ### giro/girolaw20.known -/
noncomputable def E99q : Env := ⟨Proofs.Try.prog, fun _ => false, sumsOf [R0q, R98q, R33q, R79q]⟩
def A99q : Notes := ⟨[], []⟩
theorem Eo99q : EnvOK E99q := ⟨eqOK_none, sumsOf_ok (List.forall_mem_cons.2 ⟨Ro0q, List.forall_mem_cons.2 ⟨Ro98q, List.forall_mem_cons.2 ⟨Ro33q, List.forall_mem_cons.2 ⟨Ro79q, List.forall_mem_nil _⟩⟩⟩⟩)⟩
theorem El99q : SumsLocal E99q.sums := sumsOf_local (List.forall_mem_cons.2 ⟨Rl0q, List.forall_mem_cons.2 ⟨Rl98q, List.forall_mem_cons.2 ⟨Rl33q, List.forall_mem_cons.2 ⟨Rl79q, List.forall_mem_nil _⟩⟩⟩⟩)
def as99q : List AS := []
def rs99q : RS := .c (.bool)
def pk99q : Bool → RL rs99q.cells := fun x => (x, ())
def up99q : RL rs99q.cells → Bool := fun d => d.1
def R99q : Nat × Entry := (20, fun k nm args h => entry as99q rs99q (fun d => girolaw20_known k) pk99q nm args h)
theorem ev99q (k : Nat) (d : AD as99q) : evF E99q A99q k 1000 0 Proofs.Try.f20 (absArgs as99q d).1 (absArgs as99q d).2 (outM rs99q up99q) = girolaw20_known k := by
  kernel_rfl
theorem Ro99q : EntryOK Proofs.Try.prog R99q := fun k _ _ _ _ _ hy =>
  entry_sound (unpack := up99q) (A := A99q) (k := k) (pre := 1000) (na := 0) (E := E99q) Eo99q El99q mixed_orders (f := 20) (fn := Proofs.Try.f20) (by kernel_rfl) (body_loops (loopsOK_none (by kernel_rfl))) (enters (fn := Proofs.Try.f20) (by kernel_rfl) (by kernel_rfl) (by kernel_rfl)) (fun _ => rfl) (ev99q k) hy
theorem Rl99q : EntryLocal R99q.2 := entry_local (S := fun k (d : AD as99q) => girolaw20_known k)

/-! ### giro/giroref13.Is -/
noncomputable def E101q : Env := ⟨Proofs.Try.prog, fun _ => false, sumsOf [R1q, R2q]⟩
def I101_0q : Spec := ⟨[(0, .c (.dat false y7q)), (3, .c (.int .i64))], [], []⟩
def X0_101_0q : Spec := ⟨[(0, .c (.dat false y7q))], [], []⟩
def X1_101_0q : Spec := ⟨[(2, .c (.bool))], [], []⟩
def O101_0q : List (Ex × Spec) := [(.exit 0, X0_101_0q), (.ret, X1_101_0q)]
abbrev Z101_0q : Type := (List K1q) ⊕ Bool
def c101_0q (f : List K1q → Int → Option Z101_0q) (d : I101_0q.den) : Option Z101_0q := f d.1.1.1 d.1.2.1.1
def T101_0q : OutD O101_0q → Z101_0q
 | .inl d => .inl d.1.1.1
 | .inr d => .inr d.1.1.1
def e101_0q (base : Nat) (x : Z101_0q) (R : Type) (K : Ex → St → Option R) : Option R := match x with
 | .inl x => K (.exit 0) (stOf base X0_101_0q (((x, ()), ()), ()))
 | .inr x => K .ret (stOf base X1_101_0q (((x, ()), ()), ()))
def L101_0q : LoopSum := ⟨I101_0q, O101_0q, Z101_0q, fun k d => c101_0q (giroref13_Is_L0 k k) d, e101_0q⟩
def A101q : Notes := ⟨[], [(2, L101_0q)]⟩
theorem Eo101q : EnvOK E101q := ⟨eqOK_none, sumsOf_ok (List.forall_mem_cons.2 ⟨Ro1q, List.forall_mem_cons.2 ⟨Ro2q, List.forall_mem_nil _⟩⟩)⟩
theorem El101q : SumsLocal E101q.sums := sumsOf_local (List.forall_mem_cons.2 ⟨Rl1q, List.forall_mem_cons.2 ⟨Rl2q, List.forall_mem_nil _⟩⟩)
theorem st101_0q (k : Nat) (rec : List K1q → Int → Option Z101_0q) (d : I101_0q.den) : c101_0q (giroref13_Is_L0b k rec) d = evC E101q A101q k 1000 0 39 (loopAt (bodyOf Proofs.Try.f22) 0) (stOf (1000 + loopBase) I101_0q d) (roundK 1000 I101_0q O101_0q T101_0q (c101_0q rec)) := by
  obtain ⟨⟨⟨_, _⟩, ⟨_, _⟩, _⟩, _⟩ := d
  kernel_rfl
theorem lk101_0q : LoopOK Proofs.Try.prog 1000 0 39 (loopAt (bodyOf Proofs.Try.f22) 0) L101_0q :=
  loop_sound (A := A101q) (inS := I101_0q) (outs := O101_0q) Eo101q El101q mixed_orders (loopsOK_none (by kernel_rfl)) T101_0q e101_0q (by intro o R K; rcases o with o | o <;> rfl) (fun k n d => c101_0q (giroref13_Is_L0 k n) d) (fun _ _ => rfl) (fun k n d => st101_0q k (giroref13_Is_L0 k n) d)
def as101q : List AS := [.c (.dat false y7q)]
def rs101q : RS := .c (.bool)
def pk101q : Bool → RL rs101q.cells := fun x => (x, ())
def up101q : RL rs101q.cells → Bool := fun d => d.1
def R101q : Nat × Entry := (22, fun k nm args h => entry as101q rs101q (fun d => giroref13_Is k d.1) pk101q nm args h)
theorem ev101q (k : Nat) (d : AD as101q) : evF E101q A101q k 1000 0 Proofs.Try.f22 (absArgs as101q d).1 (absArgs as101q d).2 (outM rs101q up101q) = giroref13_Is k d.1 := by
  obtain ⟨_, _⟩ := d
  kernel_rfl
theorem Ro101q : EntryOK Proofs.Try.prog R101q := fun k _ _ _ _ _ hy =>
  entry_sound (unpack := up101q) (A := A101q) (k := k) (pre := 1000) (na := 0) (E := E101q) Eo101q El101q mixed_orders (f := 22) (fn := Proofs.Try.f22) (by kernel_rfl) (body_loops (loopsOK_of (n := 1) (by kernel_rfl) fun i hi => match i, hi with | 0, _ => ⟨L101_0q, by kernel_rfl, lk101_0q⟩ | i + 1, hi => absurd hi (by omega))) (enters (fn := Proofs.Try.f22) (by kernel_rfl) (by kernel_rfl) (by kernel_rfl)) (fun _ => rfl) (ev101q k) hy
theorem Rl101q : EntryLocal R101q.2 := entry_local (S := fun k (d : AD as101q) => giroref13_Is k d.1)

/-! ### giro/girolaw20.KnotBooks -/
noncomputable def E_girolaw20_KnotBooks : Env := ⟨Proofs.Try.prog, fun _ => false, sumsOf [R89q, R101q, R81q, R79q, R92q, R97q, R99q]⟩
def A_girolaw20_KnotBooks : Notes := ⟨[], []⟩
theorem E_girolaw20_KnotBooks_ok : EnvOK E_girolaw20_KnotBooks := ⟨eqOK_none, sumsOf_ok (List.forall_mem_cons.2 ⟨Ro89q, List.forall_mem_cons.2 ⟨Ro101q, List.forall_mem_cons.2 ⟨Ro81q, List.forall_mem_cons.2 ⟨Ro79q, List.forall_mem_cons.2 ⟨Ro92q, List.forall_mem_cons.2 ⟨Ro97q, List.forall_mem_cons.2 ⟨Ro99q, List.forall_mem_nil _⟩⟩⟩⟩⟩⟩⟩)⟩
theorem E_girolaw20_KnotBooks_local : SumsLocal E_girolaw20_KnotBooks.sums := sumsOf_local (List.forall_mem_cons.2 ⟨Rl89q, List.forall_mem_cons.2 ⟨Rl101q, List.forall_mem_cons.2 ⟨Rl81q, List.forall_mem_cons.2 ⟨Rl79q, List.forall_mem_cons.2 ⟨Rl92q, List.forall_mem_cons.2 ⟨Rl97q, List.forall_mem_cons.2 ⟨Rl99q, List.forall_mem_nil _⟩⟩⟩⟩⟩⟩⟩)
def as_girolaw20_KnotBooks : List AS := [.agg [.dat true y3q, .dat true (.sl (.int .i64)), .dat true (.int .i64), .dat true (.sl (.int .i64))], .c (.dat true y7q), .c (.int .i64)]
def rs_girolaw20_KnotBooks : RS := .c (.bool)
def pk_girolaw20_KnotBooks : Bool → RL rs_girolaw20_KnotBooks.cells := fun x => (x, ())
def up_girolaw20_KnotBooks : RL rs_girolaw20_KnotBooks.cells → Bool := fun d => d.1
def R_girolaw20_KnotBooks : Nat × Entry := (4, fun k nm args h => entry as_girolaw20_KnotBooks rs_girolaw20_KnotBooks (fun d => girolaw20_KnotBooks k d.1 d.2.1 d.2.2.1 d.2.2.2.1 d.2.2.2.2.1 d.2.2.2.2.2.1) pk_girolaw20_KnotBooks nm args h)
theorem girolaw20_KnotBooks_ev (k : Nat) (d : AD as_girolaw20_KnotBooks) : evF E_girolaw20_KnotBooks A_girolaw20_KnotBooks k 1000 0 Proofs.Try.f4 (absArgs as_girolaw20_KnotBooks d).1 (absArgs as_girolaw20_KnotBooks d).2 (outM rs_girolaw20_KnotBooks up_girolaw20_KnotBooks) = girolaw20_KnotBooks k d.1 d.2.1 d.2.2.1 d.2.2.2.1 d.2.2.2.2.1 d.2.2.2.2.2.1 := by
  obtain ⟨_, _, _, _, _, _, _⟩ := d
  kernel_rfl
theorem R_girolaw20_KnotBooks_ok : EntryOK Proofs.Try.prog R_girolaw20_KnotBooks := fun k _ _ _ _ _ hy =>
  entry_sound (unpack := up_girolaw20_KnotBooks) (A := A_girolaw20_KnotBooks) (k := k) (pre := 1000) (na := 0) (E := E_girolaw20_KnotBooks) E_girolaw20_KnotBooks_ok E_girolaw20_KnotBooks_local mixed_orders (f := 4) (fn := Proofs.Try.f4) (by kernel_rfl) (body_loops (loopsOK_none (by kernel_rfl))) (enters (fn := Proofs.Try.f4) (by kernel_rfl) (by kernel_rfl) (by kernel_rfl)) (fun _ => rfl) (girolaw20_KnotBooks_ev k) hy
theorem R_girolaw20_KnotBooks_local : EntryLocal R_girolaw20_KnotBooks.2 := entry_local (S := fun k (d : AD as_girolaw20_KnotBooks) => girolaw20_KnotBooks k d.1 d.2.1 d.2.2.1 d.2.2.2.1 d.2.2.2.2.1 d.2.2.2.2.2.1)

end Go.Ab.Gi
