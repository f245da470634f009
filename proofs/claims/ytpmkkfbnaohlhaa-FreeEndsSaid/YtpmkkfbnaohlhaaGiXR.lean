/- The shallow functions are what the program does, printed (abprint.py). -/
import Derived.Test.YtpmkkfbnaohlhaaGiXRa
set_option linter.unusedVariables false
set_option maxRecDepth 100000
namespace Go.Ab.Gi

/-! ### giro/giroref15.short -/
noncomputable def E101q : Env := ⟨Proofs.Try.prog, fun _ => false, sumsOf [R95q, R5q, R98q, R97q]⟩
def I101_0q : Spec := ⟨[(1, .c (.dat false y7q)), (2, .c (.int .i64)), (3, .c (.lit (.ptr 1001000 0))), (7, .c (.int .i64)), (8, .c (.int .i64)), (9, .c (.int .i64)), (10, .c (.int .i64)), (11, .c (.int .i64))], [.box true [.dat false y3q, .dat false (.sl (.int .i64)), .dat false (.int .i64), .dat false (.sl (.int .i64))]], []⟩
def X0_101_0q : Spec := ⟨[(2, .c (.int .i64)), (3, .c (.lit (.ptr 1001000 0))), (7, .c (.int .i64)), (8, .c (.int .i64)), (9, .c (.int .i64)), (10, .c (.int .i64))], [.box true [.dat false y3q, .dat false (.sl (.int .i64)), .dat false (.int .i64), .dat false (.sl (.int .i64))]], []⟩
def X1_101_0q : Spec := ⟨[(6, .c (.bool))], [], []⟩
def O101_0q : List (Ex × Spec) := [(.exit 0, X0_101_0q), (.ret, X1_101_0q)]
abbrev Z101_0q : Type := (Int × Int × Int × Int × Int × (List K2q) × (List (List Int)) × (List Int) × (List (List Int))) ⊕ Bool
def c101_0q (f : List K1q → Int → Int → Int → Int → Int → Int → List K2q → List (List Int) → List Int → List (List Int) → Option Z101_0q) (d : I101_0q.den) : Option Z101_0q := f d.1.1.1 d.1.2.1.1 d.1.2.2.2.1.1 d.1.2.2.2.2.1.1 d.1.2.2.2.2.2.1.1 d.1.2.2.2.2.2.2.1.1 d.1.2.2.2.2.2.2.2.1.1 d.2.1.1 d.2.1.2.1 d.2.1.2.2.1 d.2.1.2.2.2.1
def T101_0q : OutD O101_0q → Z101_0q
 | .inl d => .inl (d.1.1.1, d.1.2.2.1.1, d.1.2.2.2.1.1, d.1.2.2.2.2.1.1, d.1.2.2.2.2.2.1.1, d.2.1.1, d.2.1.2.1, d.2.1.2.2.1, d.2.1.2.2.2.1)
 | .inr d => .inr d.1.1.1
def e101_0q (base : Nat) (x : Z101_0q) (R : Type) (K : Ex → St → Option R) : Option R := match x with
 | .inl x => K (.exit 0) (stOf base X0_101_0q (((x.1, ()), (), (x.2.1, ()), (x.2.2.1, ()), (x.2.2.2.1, ()), (x.2.2.2.2.1, ()), ()), ((x.2.2.2.2.2.1, x.2.2.2.2.2.2.1, x.2.2.2.2.2.2.2.1, x.2.2.2.2.2.2.2.2, ()), ())))
 | .inr x => K .ret (stOf base X1_101_0q (((x, ()), ()), ()))
def L101_0q : LoopSum := ⟨I101_0q, O101_0q, Z101_0q, fun k d => c101_0q (giroref15_short_L0 k k) d, e101_0q⟩
def A101q : Notes := ⟨[], [(7, L101_0q)]⟩
theorem Eo101q : EnvOK E101q := ⟨eqOK_none, sumsOf_ok (List.forall_mem_cons.2 ⟨Ro95q, List.forall_mem_cons.2 ⟨Ro5q, List.forall_mem_cons.2 ⟨Ro98q, List.forall_mem_cons.2 ⟨Ro97q, List.forall_mem_nil _⟩⟩⟩⟩)⟩
theorem El101q : SumsLocal E101q.sums := sumsOf_local (List.forall_mem_cons.2 ⟨Rl95q, List.forall_mem_cons.2 ⟨Rl5q, List.forall_mem_cons.2 ⟨Rl98q, List.forall_mem_cons.2 ⟨Rl97q, List.forall_mem_nil _⟩⟩⟩⟩)
theorem st101_0q (k : Nat) (rec : List K1q → Int → Int → Int → Int → Int → Int → List K2q → List (List Int) → List Int → List (List Int) → Option Z101_0q) (d : I101_0q.den) : c101_0q (giroref15_short_L0b k rec) d = evC E101q A101q k 1000 0 130 (loopAt (bodyOf Proofs.Try.f104) 0) (stOf (1000 + loopBase) I101_0q d) (roundK 1000 I101_0q O101_0q T101_0q (c101_0q rec)) := by
  obtain ⟨⟨⟨_, _⟩, ⟨_, _⟩, _, ⟨_, _⟩, ⟨_, _⟩, ⟨_, _⟩, ⟨_, _⟩, ⟨_, _⟩, _⟩, ⟨⟨_, _, _, _, _⟩, _⟩⟩ := d
  kernel_rfl
theorem lk101_0q : LoopOK Proofs.Try.prog 1000 0 130 (loopAt (bodyOf Proofs.Try.f104) 0) L101_0q :=
  loop_sound (A := A101q) (inS := I101_0q) (outs := O101_0q) Eo101q El101q mixed_orders (loopsOK_none (by kernel_rfl)) T101_0q e101_0q (by intro o R K; rcases o with o | o <;> rfl) (fun k n d => c101_0q (giroref15_short_L0 k n) d) (fun _ _ => rfl) (fun k n d => st101_0q k (giroref15_short_L0 k n) d)
def as101q : List AS := [.agg [.dat false y3q, .dat false (.sl (.int .i64)), .dat false (.int .i64), .dat false (.sl (.int .i64))], .c (.dat false y7q), .c (.int .i64)]
def rs101q : RS := .c (.bool)
def pk101q : Bool → RL rs101q.cells := fun x => (x, ())
def up101q : RL rs101q.cells → Bool := fun d => d.1
def R101q : Nat × Entry := (104, fun k nm args h => entry as101q rs101q (fun d => giroref15_short k d.1 d.2.1 d.2.2.1 d.2.2.2.1 d.2.2.2.2.1 d.2.2.2.2.2.1) pk101q nm args h)
theorem ev101q (k : Nat) (d : AD as101q) : evF E101q A101q k 1000 0 Proofs.Try.f104 (absArgs as101q d).1 (absArgs as101q d).2 (outM rs101q up101q) = giroref15_short k d.1 d.2.1 d.2.2.1 d.2.2.2.1 d.2.2.2.2.1 d.2.2.2.2.2.1 := by
  obtain ⟨_, _, _, _, _, _, _⟩ := d
  kernel_rfl
theorem Ro101q : EntryOK Proofs.Try.prog R101q := fun k _ _ _ _ _ hy =>
  entry_sound (unpack := up101q) (A := A101q) (k := k) (pre := 1000) (na := 0) (E := E101q) Eo101q El101q mixed_orders (f := 104) (fn := Proofs.Try.f104) (by kernel_rfl) (body_loops (loopsOK_of (n := 1) (by kernel_rfl) fun i hi => match i, hi with | 0, _ => ⟨L101_0q, by kernel_rfl, lk101_0q⟩ | i + 1, hi => absurd hi (by omega))) (enters (fn := Proofs.Try.f104) (by kernel_rfl) (by kernel_rfl) (by kernel_rfl)) (fun _ => rfl) (ev101q k) hy
theorem Rl101q : EntryLocal R101q.2 := entry_local (S := fun k (d : AD as101q) => giroref15_short k d.1 d.2.1 d.2.2.1 d.2.2.2.1 d.2.2.2.2.1 d.2.2.2.2.2.1)

/-! ### giro/giroref15.Short -/
noncomputable def E102q : Env := ⟨Proofs.Try.prog, fun _ => false, sumsOf [R101q]⟩
def I102_0q : Spec := ⟨[(1, .c (.dat false y7q)), (2, .c (.lit (.ptr 1001000 0))), (5, .c (.lit (.osl 1001001 none))), (6, .c (.int .i64))], [.box true [.dat false y3q, .dat false (.sl (.int .i64)), .dat false (.int .i64), .dat false (.sl (.int .i64))], .arr true (.int .i64)], [(5, none, (.int .i64), false)]⟩
def X0_102_0q : Spec := ⟨[(5, .c (.lit (.osl 1001000 none)))], [.arr true (.int .i64)], []⟩
def O102_0q : List (Ex × Spec) := [(.exit 0, X0_102_0q)]
abbrev Z102_0q : Type := List Int
def c102_0q (f : List K1q → Int → List K2q → List (List Int) → List Int → List (List Int) → List Int → Option Z102_0q) (d : I102_0q.den) : Option Z102_0q := f d.1.1.1 d.1.2.2.2.1.1 d.2.1.1 d.2.1.2.1 d.2.1.2.2.1 d.2.1.2.2.2.1 d.2.2.1
def T102_0q : OutD O102_0q → Z102_0q := fun d => d.2.1
def e102_0q (base : Nat) (x : Z102_0q) (R : Type) (K : Ex → St → Option R) : Option R := K (.exit 0) (stOf base X0_102_0q (((), ()), (x, ())))
def L102_0q : LoopSum := ⟨I102_0q, O102_0q, Z102_0q, fun k d => c102_0q (giroref15_Short_L0 k k) d, e102_0q⟩
def A102q : Notes := ⟨[], [(3, L102_0q)]⟩
theorem Eo102q : EnvOK E102q := ⟨eqOK_none, sumsOf_ok (List.forall_mem_cons.2 ⟨Ro101q, List.forall_mem_nil _⟩)⟩
theorem El102q : SumsLocal E102q.sums := sumsOf_local (List.forall_mem_cons.2 ⟨Rl101q, List.forall_mem_nil _⟩)
theorem st102_0q (k : Nat) (rec : List K1q → Int → List K2q → List (List Int) → List Int → List (List Int) → List Int → Option Z102_0q) (d : I102_0q.den) : c102_0q (giroref15_Short_L0b k rec) d = evC E102q A102q k 1000 0 23 (loopAt (bodyOf Proofs.Try.f78) 0) (stOf (1000 + loopBase) I102_0q d) (roundK 1000 I102_0q O102_0q T102_0q (c102_0q rec)) := by
  obtain ⟨⟨⟨_, _⟩, _, _, ⟨_, _⟩, _⟩, ⟨⟨_, _, _, _, _⟩, _, _⟩⟩ := d
  kernel_rfl
theorem lk102_0q : LoopOK Proofs.Try.prog 1000 0 23 (loopAt (bodyOf Proofs.Try.f78) 0) L102_0q :=
  loop_sound (A := A102q) (inS := I102_0q) (outs := O102_0q) Eo102q El102q mixed_orders (loopsOK_none (by kernel_rfl)) T102_0q e102_0q (fun _ _ _ => rfl) (fun k n d => c102_0q (giroref15_Short_L0 k n) d) (fun _ _ => rfl) (fun k n d => st102_0q k (giroref15_Short_L0 k n) d)
def as102q : List AS := [.agg [.dat false y3q, .dat false (.sl (.int .i64)), .dat false (.int .i64), .dat false (.sl (.int .i64))], .c (.dat false y7q)]
def rs102q : RS := .c (.own (.int .i64))
def pk102q : List Int → RL rs102q.cells := fun x => (x, ())
def up102q : RL rs102q.cells → List Int := fun d => d.1
def R102q : Nat × Entry := (78, fun k nm args h => entry as102q rs102q (fun d => giroref15_Short k d.1 d.2.1 d.2.2.1 d.2.2.2.1 d.2.2.2.2.1) pk102q nm args h)
theorem ev102q (k : Nat) (d : AD as102q) : evF E102q A102q k 1000 0 Proofs.Try.f78 (absArgs as102q d).1 (absArgs as102q d).2 (outM rs102q up102q) = giroref15_Short k d.1 d.2.1 d.2.2.1 d.2.2.2.1 d.2.2.2.2.1 := by
  obtain ⟨_, _, _, _, _, _⟩ := d
  kernel_rfl
theorem Ro102q : EntryOK Proofs.Try.prog R102q := fun k _ _ _ _ _ hy =>
  entry_sound (unpack := up102q) (A := A102q) (k := k) (pre := 1000) (na := 0) (E := E102q) Eo102q El102q mixed_orders (f := 78) (fn := Proofs.Try.f78) (by kernel_rfl) (body_loops (loopsOK_of (n := 1) (by kernel_rfl) fun i hi => match i, hi with | 0, _ => ⟨L102_0q, by kernel_rfl, lk102_0q⟩ | i + 1, hi => absurd hi (by omega))) (enters (fn := Proofs.Try.f78) (by kernel_rfl) (by kernel_rfl) (by kernel_rfl)) (fun _ => rfl) (ev102q k) hy
theorem Rl102q : EntryLocal R102q.2 := entry_local (S := fun k (d : AD as102q) => giroref15_Short k d.1 d.2.1 d.2.2.1 d.2.2.2.1 d.2.2.2.2.1)

/-! ### giro/giroref15.Fits -/
noncomputable def E103q : Env := ⟨Proofs.Try.prog, fun _ => false, sumsOf [R52q, R102q]⟩
def A103q : Notes := ⟨[], []⟩
theorem Eo103q : EnvOK E103q := ⟨eqOK_none, sumsOf_ok (List.forall_mem_cons.2 ⟨Ro52q, List.forall_mem_cons.2 ⟨Ro102q, List.forall_mem_nil _⟩⟩)⟩
theorem El103q : SumsLocal E103q.sums := sumsOf_local (List.forall_mem_cons.2 ⟨Rl52q, List.forall_mem_cons.2 ⟨Rl102q, List.forall_mem_nil _⟩⟩)
def as103q : List AS := [.agg [.dat false y3q, .dat false (.sl (.int .i64)), .dat false (.int .i64), .dat false (.sl (.int .i64))], .c (.dat false y7q)]
def rs103q : RS := .c (.bool)
def pk103q : Bool → RL rs103q.cells := fun x => (x, ())
def up103q : RL rs103q.cells → Bool := fun d => d.1
def R103q : Nat × Entry := (38, fun k nm args h => entry as103q rs103q (fun d => giroref15_Fits k d.1 d.2.1 d.2.2.1 d.2.2.2.1 d.2.2.2.2.1) pk103q nm args h)
theorem ev103q (k : Nat) (d : AD as103q) : evF E103q A103q k 1000 0 Proofs.Try.f38 (absArgs as103q d).1 (absArgs as103q d).2 (outM rs103q up103q) = giroref15_Fits k d.1 d.2.1 d.2.2.1 d.2.2.2.1 d.2.2.2.2.1 := by
  obtain ⟨_, _, _, _, _, _⟩ := d
  kernel_rfl
theorem Ro103q : EntryOK Proofs.Try.prog R103q := fun k _ _ _ _ _ hy =>
  entry_sound (unpack := up103q) (A := A103q) (k := k) (pre := 1000) (na := 0) (E := E103q) Eo103q El103q mixed_orders (f := 38) (fn := Proofs.Try.f38) (by kernel_rfl) (body_loops (loopsOK_none (by kernel_rfl))) (enters (fn := Proofs.Try.f38) (by kernel_rfl) (by kernel_rfl) (by kernel_rfl)) (fun _ => rfl) (ev103q k) hy
theorem Rl103q : EntryLocal R103q.2 := entry_local (S := fun k (d : AD as103q) => giroref15_Fits k d.1 d.2.1 d.2.2.1 d.2.2.2.1 d.2.2.2.2.1)

/-! ### giro/giroref18.Goes -/
noncomputable def E104q : Env := ⟨Proofs.Try.prog, fun _ => false, sumsOf [R100q, R103q]⟩
def A104q : Notes := ⟨[], []⟩
theorem Eo104q : EnvOK E104q := ⟨eqOK_none, sumsOf_ok (List.forall_mem_cons.2 ⟨Ro100q, List.forall_mem_cons.2 ⟨Ro103q, List.forall_mem_nil _⟩⟩)⟩
theorem El104q : SumsLocal E104q.sums := sumsOf_local (List.forall_mem_cons.2 ⟨Rl100q, List.forall_mem_cons.2 ⟨Rl103q, List.forall_mem_nil _⟩⟩)
def as104q : List AS := [.agg [.dat true y3q, .dat true (.sl (.int .i64)), .dat true (.int .i64), .dat true (.sl (.int .i64))], .c (.dat false y7q)]
def rs104q : RS := .tup [(true, [.fro y3q, .fro (.sl (.int .i64)), .fro (.int .i64), .fro (.sl (.int .i64))]), (false, [.bool])]
def pk104q : (List K2q) × (List (List Int)) × (List Int) × (List (List Int)) × Bool → RL rs104q.cells := fun x => (x.1, x.2.1, x.2.2.1, x.2.2.2.1, x.2.2.2.2, ())
def up104q : RL rs104q.cells → (List K2q) × (List (List Int)) × (List Int) × (List (List Int)) × Bool := fun d => (d.1, d.2.1, d.2.2.1, d.2.2.2.1, d.2.2.2.2.1)
def R104q : Nat × Entry := (74, fun k nm args h => entry as104q rs104q (fun d => giroref18_Goes k d.1 d.2.1 d.2.2.1 d.2.2.2.1 d.2.2.2.2.1) pk104q nm args h)
theorem ev104q (k : Nat) (d : AD as104q) : evF E104q A104q k 1000 0 Proofs.Try.f74 (absArgs as104q d).1 (absArgs as104q d).2 (outM rs104q up104q) = giroref18_Goes k d.1 d.2.1 d.2.2.1 d.2.2.2.1 d.2.2.2.2.1 := by
  obtain ⟨_, _, _, _, _, _⟩ := d
  kernel_rfl
theorem Ro104q : EntryOK Proofs.Try.prog R104q := fun k _ _ _ _ _ hy =>
  entry_sound (unpack := up104q) (A := A104q) (k := k) (pre := 1000) (na := 0) (E := E104q) Eo104q El104q mixed_orders (f := 74) (fn := Proofs.Try.f74) (by kernel_rfl) (body_loops (loopsOK_none (by kernel_rfl))) (enters (fn := Proofs.Try.f74) (by kernel_rfl) (by kernel_rfl) (by kernel_rfl)) (fun _ => rfl) (ev104q k) hy
theorem Rl104q : EntryLocal R104q.2 := entry_local (S := fun k (d : AD as104q) => giroref18_Goes k d.1 d.2.1 d.2.2.1 d.2.2.2.1 d.2.2.2.2.1)

/-! ### giro/giroref18.Next -/
noncomputable def E105q : Env := ⟨Proofs.Try.prog, fun _ => false, sumsOf [R94q, R104q]⟩
def I105_0q : Spec := ⟨[(3, .c (.lit (.ptr 1001000 0))), (6, .c (.lit (.ptr 1001001 0))), (8, .c (.lit (.osl 1001002 none))), (9, .c (.int .i64))], [.box true [.dat true y3q, .dat true (.sl (.int .i64)), .dat true (.int .i64), .dat true (.sl (.int .i64))], .box true [.int .i64, .int .i64, .int .i64, .int .i64, .int .i64, .int .i64, .int .i64], .arr true y7q], []⟩
def X0_105_0q : Spec := ⟨[(6, .c (.lit (.ptr 1001000 0)))], [.box true [.int .i64, .int .i64, .int .i64, .int .i64, .int .i64, .int .i64, .int .i64]], []⟩
def X1_105_0q : Spec := ⟨[(6, .c (.lit (.ptr 1001000 0))), (7, .c (.bool))], [.box true [.int .i64, .int .i64, .int .i64, .int .i64, .int .i64, .int .i64, .int .i64]], []⟩
def O105_0q : List (Ex × Spec) := [(.exit 0, X0_105_0q), (.ret, X1_105_0q)]
abbrev Z105_0q : Type := K1q ⊕ (Bool × Int × Int × Int × Int × Int × Int × Int)
def c105_0q (f : Int → List K2q → List (List Int) → List Int → List (List Int) → Int → Int → Int → Int → Int → Int → Int → List K1q → Option Z105_0q) (d : I105_0q.den) : Option Z105_0q := f d.1.2.2.2.1.1 d.2.1.1 d.2.1.2.1 d.2.1.2.2.1 d.2.1.2.2.2.1 d.2.2.1.1 d.2.2.1.2.1 d.2.2.1.2.2.1 d.2.2.1.2.2.2.1 d.2.2.1.2.2.2.2.1 d.2.2.1.2.2.2.2.2.1 d.2.2.1.2.2.2.2.2.2.1 d.2.2.2.1
def T105_0q : OutD O105_0q → Z105_0q
 | .inl d => .inl (d.2.1.1, d.2.1.2.1, d.2.1.2.2.1, d.2.1.2.2.2.1, d.2.1.2.2.2.2.1, d.2.1.2.2.2.2.2.1, d.2.1.2.2.2.2.2.2.1)
 | .inr d => .inr (d.1.2.1.1, d.2.1.1, d.2.1.2.1, d.2.1.2.2.1, d.2.1.2.2.2.1, d.2.1.2.2.2.2.1, d.2.1.2.2.2.2.2.1, d.2.1.2.2.2.2.2.2.1)
def e105_0q (base : Nat) (x : Z105_0q) (R : Type) (K : Ex → St → Option R) : Option R := match x with
 | .inl x => K (.exit 0) (stOf base X0_105_0q (((), ()), ((x.1, x.2.1, x.2.2.1, x.2.2.2.1, x.2.2.2.2.1, x.2.2.2.2.2.1, x.2.2.2.2.2.2, ()), ())))
 | .inr x => K .ret (stOf base X1_105_0q (((), (x.1, ()), ()), ((x.2.1, x.2.2.1, x.2.2.2.1, x.2.2.2.2.1, x.2.2.2.2.2.1, x.2.2.2.2.2.2.1, x.2.2.2.2.2.2.2, ()), ())))
def L105_0q : LoopSum := ⟨I105_0q, O105_0q, Z105_0q, fun k d => c105_0q (giroref18_Next_L0 k k) d, e105_0q⟩
def A105q : Notes := ⟨[], [(3, L105_0q)]⟩
theorem Eo105q : EnvOK E105q := ⟨eqOK_none, sumsOf_ok (List.forall_mem_cons.2 ⟨Ro94q, List.forall_mem_cons.2 ⟨Ro104q, List.forall_mem_nil _⟩⟩)⟩
theorem El105q : SumsLocal E105q.sums := sumsOf_local (List.forall_mem_cons.2 ⟨Rl94q, List.forall_mem_cons.2 ⟨Rl104q, List.forall_mem_nil _⟩⟩)
theorem st105_0q (k : Nat) (rec : Int → List K2q → List (List Int) → List Int → List (List Int) → Int → Int → Int → Int → Int → Int → Int → List K1q → Option Z105_0q) (d : I105_0q.den) : c105_0q (giroref18_Next_L0b k rec) d = evC E105q A105q k 1000 0 37 (loopAt (bodyOf Proofs.Try.f41) 0) (stOf (1000 + loopBase) I105_0q d) (roundK 1000 I105_0q O105_0q T105_0q (c105_0q rec)) := by
  obtain ⟨⟨_, _, _, ⟨_, _⟩, _⟩, ⟨⟨_, _, _, _, _⟩, ⟨_, _, _, _, _, _, _, _⟩, _, _⟩⟩ := d
  kernel_rfl
theorem lk105_0q : LoopOK Proofs.Try.prog 1000 0 37 (loopAt (bodyOf Proofs.Try.f41) 0) L105_0q :=
  loop_sound (A := A105q) (inS := I105_0q) (outs := O105_0q) Eo105q El105q mixed_orders (loopsOK_none (by kernel_rfl)) T105_0q e105_0q (by intro o R K; rcases o with o | o <;> rfl) (fun k n d => c105_0q (giroref18_Next_L0 k n) d) (fun _ _ => rfl) (fun k n d => st105_0q k (giroref18_Next_L0 k n) d)
def as105q : List AS := [.agg [.dat true y3q, .dat true (.sl (.int .i64)), .dat true (.int .i64), .dat true (.sl (.int .i64))], .c (.dat true y7q), .c (.int .i64)]
def rs105q : RS := .tup [(true, [.int .i64, .int .i64, .int .i64, .int .i64, .int .i64, .int .i64, .int .i64]), (false, [.bool])]
def pk105q : Int × Int × Int × Int × Int × Int × Int × Bool → RL rs105q.cells := fun x => (x.1, x.2.1, x.2.2.1, x.2.2.2.1, x.2.2.2.2.1, x.2.2.2.2.2.1, x.2.2.2.2.2.2.1, x.2.2.2.2.2.2.2, ())
def up105q : RL rs105q.cells → Int × Int × Int × Int × Int × Int × Int × Bool := fun d => (d.1, d.2.1, d.2.2.1, d.2.2.2.1, d.2.2.2.2.1, d.2.2.2.2.2.1, d.2.2.2.2.2.2.1, d.2.2.2.2.2.2.2.1)
def R105q : Nat × Entry := (41, fun k nm args h => entry as105q rs105q (fun d => giroref18_Next k d.1 d.2.1 d.2.2.1 d.2.2.2.1 d.2.2.2.2.1 d.2.2.2.2.2.1) pk105q nm args h)
theorem ev105q (k : Nat) (d : AD as105q) : evF E105q A105q k 1000 0 Proofs.Try.f41 (absArgs as105q d).1 (absArgs as105q d).2 (outM rs105q up105q) = giroref18_Next k d.1 d.2.1 d.2.2.1 d.2.2.2.1 d.2.2.2.2.1 d.2.2.2.2.2.1 := by
  obtain ⟨_, _, _, _, _, _, _⟩ := d
  kernel_rfl
theorem Ro105q : EntryOK Proofs.Try.prog R105q := fun k _ _ _ _ _ hy =>
  entry_sound (unpack := up105q) (A := A105q) (k := k) (pre := 1000) (na := 0) (E := E105q) Eo105q El105q mixed_orders (f := 41) (fn := Proofs.Try.f41) (by kernel_rfl) (body_loops (loopsOK_of (n := 1) (by kernel_rfl) fun i hi => match i, hi with | 0, _ => ⟨L105_0q, by kernel_rfl, lk105_0q⟩ | i + 1, hi => absurd hi (by omega))) (enters (fn := Proofs.Try.f41) (by kernel_rfl) (by kernel_rfl) (by kernel_rfl)) (fun _ => rfl) (ev105q k) hy
theorem Rl105q : EntryLocal R105q.2 := entry_local (S := fun k (d : AD as105q) => giroref18_Next k d.1 d.2.1 d.2.2.1 d.2.2.2.1 d.2.2.2.2.1 d.2.2.2.2.2.1)

/-! ### giro/giroref13.Drop -/
noncomputable def E106q : Env := ⟨Proofs.Try.prog, fun _ => false, sumsOf [R48q]⟩
def A106q : Notes := ⟨[], []⟩
theorem Eo106q : EnvOK E106q := ⟨eqOK_none, sumsOf_ok (List.forall_mem_cons.2 ⟨Ro48q, List.forall_mem_nil _⟩)⟩
theorem El106q : SumsLocal E106q.sums := sumsOf_local (List.forall_mem_cons.2 ⟨Rl48q, List.forall_mem_nil _⟩)
def as106q : List AS := [.c (.dat true y7q), .c (.int .i64)]
def rs106q : RS := .tup [(false, [.fro y7q]), (true, [.int .i64, .int .i64, .int .i64, .int .i64, .int .i64, .int .i64, .int .i64]), (false, [.int .i64])]
def pk106q : (List K1q) × Int × Int × Int × Int × Int × Int × Int × Int → RL rs106q.cells := fun x => (x.1, x.2.1, x.2.2.1, x.2.2.2.1, x.2.2.2.2.1, x.2.2.2.2.2.1, x.2.2.2.2.2.2.1, x.2.2.2.2.2.2.2.1, x.2.2.2.2.2.2.2.2, ())
def up106q : RL rs106q.cells → (List K1q) × Int × Int × Int × Int × Int × Int × Int × Int := fun d => (d.1, d.2.1, d.2.2.1, d.2.2.2.1, d.2.2.2.2.1, d.2.2.2.2.2.1, d.2.2.2.2.2.2.1, d.2.2.2.2.2.2.2.1, d.2.2.2.2.2.2.2.2.1)
def R106q : Nat × Entry := (40, fun k nm args h => entry as106q rs106q (fun d => giroref13_Drop k d.1 d.2.1) pk106q nm args h)
theorem ev106q (k : Nat) (d : AD as106q) : evF E106q A106q k 1000 0 Proofs.Try.f40 (absArgs as106q d).1 (absArgs as106q d).2 (outM rs106q up106q) = giroref13_Drop k d.1 d.2.1 := by
  obtain ⟨_, _, _⟩ := d
  kernel_rfl
theorem Ro106q : EntryOK Proofs.Try.prog R106q := fun k _ _ _ _ _ hy =>
  entry_sound (unpack := up106q) (A := A106q) (k := k) (pre := 1000) (na := 0) (E := E106q) Eo106q El106q mixed_orders (f := 40) (fn := Proofs.Try.f40) (by kernel_rfl) (body_loops (loopsOK_none (by kernel_rfl))) (enters (fn := Proofs.Try.f40) (by kernel_rfl) (by kernel_rfl) (by kernel_rfl)) (fun _ => rfl) (ev106q k) hy
theorem Rl106q : EntryLocal R106q.2 := entry_local (S := fun k (d : AD as106q) => giroref13_Drop k d.1 d.2.1)

/-! ### giro/giroref11.Same -/
noncomputable def E108q : Env := ⟨Proofs.Try.prog, fun t => [51].any (Nat.beq t), sumsOf []⟩
def I108_0q : Spec := ⟨[(0, .c (.dat false y7q)), (1, .c (.dat false y7q)), (5, .c (.int .i64))], [], []⟩
def X0_108_0q : Spec := ⟨[], [], []⟩
def X1_108_0q : Spec := ⟨[(4, .c (.bool))], [], []⟩
def O108_0q : List (Ex × Spec) := [(.exit 0, X0_108_0q), (.ret, X1_108_0q)]
abbrev Z108_0q : Type := Unit ⊕ Bool
def c108_0q (f : List K1q → List K1q → Int → Option Z108_0q) (d : I108_0q.den) : Option Z108_0q := f d.1.1.1 d.1.2.1.1 d.1.2.2.1.1
def T108_0q : OutD O108_0q → Z108_0q
 | .inl d => .inl ()
 | .inr d => .inr d.1.1.1
def e108_0q (base : Nat) (x : Z108_0q) (R : Type) (K : Ex → St → Option R) : Option R := match x with
 | .inl x => K (.exit 0) (stOf base X0_108_0q ((), ()))
 | .inr x => K .ret (stOf base X1_108_0q (((x, ()), ()), ()))
def L108_0q : LoopSum := ⟨I108_0q, O108_0q, Z108_0q, fun k d => c108_0q (giroref11_Same_L0 k k) d, e108_0q⟩
def A108q : Notes := ⟨[], [(4, L108_0q)]⟩
theorem Eo108q : EnvOK E108q := ⟨eqOK_flat (fun t h => eqT_mem (p := fun t => !Proofs.Try.prog.stoodInHeld t && !Proofs.Try.prog.eqGuardType Proofs.Try.prog.depth t) (l := [51]) (List.forall_mem_cons.2 ⟨by kernel_rfl, List.forall_mem_nil _⟩) t h), sumsOf_ok (List.forall_mem_nil _)⟩
theorem El108q : SumsLocal E108q.sums := sumsOf_local (List.forall_mem_nil _)
theorem st108_0q (k : Nat) (rec : List K1q → List K1q → Int → Option Z108_0q) (d : I108_0q.den) : c108_0q (giroref11_Same_L0b k rec) d = evC E108q A108q k 1000 0 26 (loopAt (bodyOf Proofs.Try.f42) 0) (stOf (1000 + loopBase) I108_0q d) (roundK 1000 I108_0q O108_0q T108_0q (c108_0q rec)) := by
  obtain ⟨⟨⟨_, _⟩, ⟨_, _⟩, ⟨_, _⟩, _⟩, _⟩ := d
  kernel_rfl
theorem lk108_0q : LoopOK Proofs.Try.prog 1000 0 26 (loopAt (bodyOf Proofs.Try.f42) 0) L108_0q :=
  loop_sound (A := A108q) (inS := I108_0q) (outs := O108_0q) Eo108q El108q mixed_orders (loopsOK_none (by kernel_rfl)) T108_0q e108_0q (by intro o R K; rcases o with o | o <;> rfl) (fun k n d => c108_0q (giroref11_Same_L0 k n) d) (fun _ _ => rfl) (fun k n d => st108_0q k (giroref11_Same_L0 k n) d)
def as108q : List AS := [.c (.dat false y7q), .c (.dat false y7q)]
def rs108q : RS := .c (.bool)
def pk108q : Bool → RL rs108q.cells := fun x => (x, ())
def up108q : RL rs108q.cells → Bool := fun d => d.1
def R108q : Nat × Entry := (42, fun k nm args h => entry as108q rs108q (fun d => giroref11_Same k d.1 d.2.1) pk108q nm args h)
theorem ev108q (k : Nat) (d : AD as108q) : evF E108q A108q k 1000 0 Proofs.Try.f42 (absArgs as108q d).1 (absArgs as108q d).2 (outM rs108q up108q) = giroref11_Same k d.1 d.2.1 := by
  obtain ⟨_, _, _⟩ := d
  kernel_rfl
theorem Ro108q : EntryOK Proofs.Try.prog R108q := fun k _ _ _ _ _ hy =>
  entry_sound (unpack := up108q) (A := A108q) (k := k) (pre := 1000) (na := 0) (E := E108q) Eo108q El108q mixed_orders (f := 42) (fn := Proofs.Try.f42) (by kernel_rfl) (body_loops (loopsOK_of (n := 1) (by kernel_rfl) fun i hi => match i, hi with | 0, _ => ⟨L108_0q, by kernel_rfl, lk108_0q⟩ | i + 1, hi => absurd hi (by omega))) (enters (fn := Proofs.Try.f42) (by kernel_rfl) (by kernel_rfl) (by kernel_rfl)) (fun _ => rfl) (ev108q k) hy
theorem Rl108q : EntryLocal R108q.2 := entry_local (S := fun k (d : AD as108q) => giroref11_Same k d.1 d.2.1)

/-! ### giro/girolaw18.some -/
noncomputable def E110q : Env := ⟨Proofs.Try.prog, fun _ => false, sumsOf []⟩
def I110_0q : Spec := ⟨[(0, .c (.dat false (.int .i64))), (1, .c (.int .i64)), (4, .c (.lit (.ptr 1001000 0))), (5, .c (.lit (.ptr 1001001 0))), (6, .c (.int .i64))], [.box true [.lit .nsl, .lit .nsl, .lit .nsl, .lit .nsl], .box true [.lit (.osl 1001002 none), .lit (.osl 1001003 none), .lit (.osl 1001004 none), .lit (.osl 1001005 none)], .arr true y3q, .mat, .arr true (.int .i64), .mat], [(5, some 0, y3q, false)]⟩
def X0_110_0q : Spec := ⟨[(1, .c (.int .i64)), (4, .c (.lit (.ptr 1001000 0))), (5, .c (.lit (.ptr 1001001 0)))], [.box true [.lit .nsl, .lit .nsl, .lit .nsl, .lit .nsl], .box true [.lit (.osl 1001002 none), .lit (.osl 1001003 none), .lit (.osl 1001004 none), .lit (.osl 1001005 none)], .arr true y3q, .mat, .arr true (.int .i64), .mat], []⟩
def O110_0q : List (Ex × Spec) := [(.exit 0, X0_110_0q)]
abbrev Z110_0q : Type := Int × (List K2q) × (List (List Int)) × (List Int) × (List (List Int))
def c110_0q (f : List Int → Int → Int → List K2q → List (List Int) → List Int → List (List Int) → Option Z110_0q) (d : I110_0q.den) : Option Z110_0q := f d.1.1.1 d.1.2.1.1 d.1.2.2.2.2.1.1 d.2.2.2.1 d.2.2.2.2.1 d.2.2.2.2.2.1 d.2.2.2.2.2.2.1
def T110_0q : OutD O110_0q → Z110_0q := fun d => (d.1.1.1, d.2.2.2.1, d.2.2.2.2.1, d.2.2.2.2.2.1, d.2.2.2.2.2.2.1)
def e110_0q (base : Nat) (x : Z110_0q) (R : Type) (K : Ex → St → Option R) : Option R := K (.exit 0) (stOf base X0_110_0q (((x.1, ()), (), (), ()), ((), (), x.2.1, x.2.2.1, x.2.2.2.1, x.2.2.2.2, ())))
def L110_0q : LoopSum := ⟨I110_0q, O110_0q, Z110_0q, fun k d => c110_0q (girolaw18_some_L0 k k) d, e110_0q⟩
def A110q : Notes := ⟨[11, 16], [(3, L110_0q)]⟩
theorem Eo110q : EnvOK E110q := ⟨eqOK_none, sumsOf_ok (List.forall_mem_nil _)⟩
theorem El110q : SumsLocal E110q.sums := sumsOf_local (List.forall_mem_nil _)
theorem st110_0q (k : Nat) (rec : List Int → Int → Int → List K2q → List (List Int) → List Int → List (List Int) → Option Z110_0q) (d : I110_0q.den) : c110_0q (girolaw18_some_L0b k rec) d = evC E110q A110q k 1000 0 91 (loopAt (bodyOf Proofs.Try.f34) 0) (stOf (1000 + loopBase) I110_0q d) (roundK 1000 I110_0q O110_0q T110_0q (c110_0q rec)) := by
  obtain ⟨⟨⟨_, _⟩, ⟨_, _⟩, _, _, ⟨_, _⟩, _⟩, ⟨_, _, _, _, _, _, _⟩⟩ := d
  kernel_rfl
theorem lk110_0q : LoopOK Proofs.Try.prog 1000 0 91 (loopAt (bodyOf Proofs.Try.f34) 0) L110_0q :=
  loop_sound (A := A110q) (inS := I110_0q) (outs := O110_0q) Eo110q El110q mixed_orders (loopsOK_none (by kernel_rfl)) T110_0q e110_0q (fun _ _ _ => rfl) (fun k n d => c110_0q (girolaw18_some_L0 k n) d) (fun _ _ => rfl) (fun k n d => st110_0q k (girolaw18_some_L0 k n) d)
def as110q : List AS := [.c (.dat false (.int .i64)), .c (.int .i64)]
def rs110q : RS := .agg [.own y3q, .mat, .own (.int .i64), .mat]
def pk110q : (List K2q) × (List (List Int)) × (List Int) × (List (List Int)) → RL rs110q.cells := fun x => (x.1, x.2.1, x.2.2.1, x.2.2.2, ())
def up110q : RL rs110q.cells → (List K2q) × (List (List Int)) × (List Int) × (List (List Int)) := fun d => (d.1, d.2.1, d.2.2.1, d.2.2.2.1)
def R110q : Nat × Entry := (34, fun k nm args h => entry as110q rs110q (fun d => girolaw18_some k d.1 d.2.1) pk110q nm args h)
theorem ev110q (k : Nat) (d : AD as110q) : evF E110q A110q k 1000 0 Proofs.Try.f34 (absArgs as110q d).1 (absArgs as110q d).2 (outM rs110q up110q) = girolaw18_some k d.1 d.2.1 := by
  obtain ⟨_, _, _⟩ := d
  kernel_rfl
theorem Ro110q : EntryOK Proofs.Try.prog R110q := fun k _ _ _ _ _ hy =>
  entry_sound (unpack := up110q) (A := A110q) (k := k) (pre := 1000) (na := 0) (E := E110q) Eo110q El110q mixed_orders (f := 34) (fn := Proofs.Try.f34) (by kernel_rfl) (body_loops (loopsOK_of (n := 1) (by kernel_rfl) fun i hi => match i, hi with | 0, _ => ⟨L110_0q, by kernel_rfl, lk110_0q⟩ | i + 1, hi => absurd hi (by omega))) (enters (fn := Proofs.Try.f34) (by kernel_rfl) (by kernel_rfl) (by kernel_rfl)) (fun _ => rfl) (ev110q k) hy
theorem Rl110q : EntryLocal R110q.2 := entry_local (S := fun k (d : AD as110q) => girolaw18_some k d.1 d.2.1)

/-! ### giro/girolaw18.known -/
noncomputable def E111q : Env := ⟨Proofs.Try.prog, fun _ => false, sumsOf [R110q, R90q, R108q]⟩
def A111q : Notes := ⟨[], []⟩
theorem Eo111q : EnvOK E111q := ⟨eqOK_none, sumsOf_ok (List.forall_mem_cons.2 ⟨Ro110q, List.forall_mem_cons.2 ⟨Ro90q, List.forall_mem_cons.2 ⟨Ro108q, List.forall_mem_nil _⟩⟩⟩)⟩
theorem El111q : SumsLocal E111q.sums := sumsOf_local (List.forall_mem_cons.2 ⟨Rl110q, List.forall_mem_cons.2 ⟨Rl90q, List.forall_mem_cons.2 ⟨Rl108q, List.forall_mem_nil _⟩⟩⟩)
def as111q : List AS := []
def rs111q : RS := .c (.bool)
def pk111q : Bool → RL rs111q.cells := fun x => (x, ())
def up111q : RL rs111q.cells → Bool := fun d => d.1
def R111q : Nat × Entry := (33, fun k nm args h => entry as111q rs111q (fun d => girolaw18_known k) pk111q nm args h)
theorem ev111q (k : Nat) (d : AD as111q) : evF E111q A111q k 1000 0 Proofs.Try.f33 (absArgs as111q d).1 (absArgs as111q d).2 (outM rs111q up111q) = girolaw18_known k := by
  kernel_rfl
theorem Ro111q : EntryOK Proofs.Try.prog R111q := fun k _ _ _ _ _ hy =>
  entry_sound (unpack := up111q) (A := A111q) (k := k) (pre := 1000) (na := 0) (E := E111q) Eo111q El111q mixed_orders (f := 33) (fn := Proofs.Try.f33) (by kernel_rfl) (body_loops (loopsOK_none (by kernel_rfl))) (enters (fn := Proofs.Try.f33) (by kernel_rfl) (by kernel_rfl) (by kernel_rfl)) (fun _ => rfl) (ev111q k) hy
theorem Rl111q : EntryLocal R111q.2 := entry_local (S := fun k (d : AD as111q) => girolaw18_known k)

/-! ### giro/giroref13.behind -/
noncomputable def E113q : Env := ⟨Proofs.Try.prog, fun _ => false, sumsOf [R49q]⟩
def I113_0q : Spec := ⟨[(0, .c (.dat false y7q)), (3, .c (.lit (.ptr 1001000 0))), (5, .c (.int .i64))], [.box true [.int .i64, .int .i64, .int .i64, .int .i64, .int .i64, .int .i64, .int .i64]], []⟩
def X0_113_0q : Spec := ⟨[(5, .c (.int .i64))], [], []⟩
def O113_0q : List (Ex × Spec) := [(.exit 0, X0_113_0q)]
abbrev Z113_0q : Type := Int
def c113_0q (f : List K1q → Int → Int → Int → Int → Int → Int → Int → Int → Option Z113_0q) (d : I113_0q.den) : Option Z113_0q := f d.1.1.1 d.1.2.2.1.1 d.2.1.1 d.2.1.2.1 d.2.1.2.2.1 d.2.1.2.2.2.1 d.2.1.2.2.2.2.1 d.2.1.2.2.2.2.2.1 d.2.1.2.2.2.2.2.2.1
def T113_0q : OutD O113_0q → Z113_0q := fun d => d.1.1.1
def e113_0q (base : Nat) (x : Z113_0q) (R : Type) (K : Ex → St → Option R) : Option R := K (.exit 0) (stOf base X0_113_0q (((x, ()), ()), ()))
def L113_0q : LoopSum := ⟨I113_0q, O113_0q, Z113_0q, fun k d => c113_0q (giroref13_behind_L0 k k) d, e113_0q⟩
def A113q : Notes := ⟨[], [(2, L113_0q)]⟩
theorem Eo113q : EnvOK E113q := ⟨eqOK_none, sumsOf_ok (List.forall_mem_cons.2 ⟨Ro49q, List.forall_mem_nil _⟩)⟩
theorem El113q : SumsLocal E113q.sums := sumsOf_local (List.forall_mem_cons.2 ⟨Rl49q, List.forall_mem_nil _⟩)
theorem st113_0q (k : Nat) (rec : List K1q → Int → Int → Int → Int → Int → Int → Int → Int → Option Z113_0q) (d : I113_0q.den) : c113_0q (giroref13_behind_L0b k rec) d = evC E113q A113q k 1000 0 21 (loopAt (bodyOf Proofs.Try.f102) 0) (stOf (1000 + loopBase) I113_0q d) (roundK 1000 I113_0q O113_0q T113_0q (c113_0q rec)) := by
  obtain ⟨⟨⟨_, _⟩, _, ⟨_, _⟩, _⟩, ⟨⟨_, _, _, _, _, _, _, _⟩, _⟩⟩ := d
  kernel_rfl
theorem lk113_0q : LoopOK Proofs.Try.prog 1000 0 21 (loopAt (bodyOf Proofs.Try.f102) 0) L113_0q :=
  loop_sound (A := A113q) (inS := I113_0q) (outs := O113_0q) Eo113q El113q mixed_orders (loopsOK_none (by kernel_rfl)) T113_0q e113_0q (fun _ _ _ => rfl) (fun k n d => c113_0q (giroref13_behind_L0 k n) d) (fun _ _ => rfl) (fun k n d => st113_0q k (giroref13_behind_L0 k n) d)
def as113q : List AS := [.c (.dat false y7q), .agg [.int .i64, .int .i64, .int .i64, .int .i64, .int .i64, .int .i64, .int .i64]]
def rs113q : RS := .c (.int .i64)
def pk113q : Int → RL rs113q.cells := fun x => (x, ())
def up113q : RL rs113q.cells → Int := fun d => d.1
def R113q : Nat × Entry := (102, fun k nm args h => entry as113q rs113q (fun d => giroref13_behind k d.1 d.2.1 d.2.2.1 d.2.2.2.1 d.2.2.2.2.1 d.2.2.2.2.2.1 d.2.2.2.2.2.2.1 d.2.2.2.2.2.2.2.1) pk113q nm args h)
theorem ev113q (k : Nat) (d : AD as113q) : evF E113q A113q k 1000 0 Proofs.Try.f102 (absArgs as113q d).1 (absArgs as113q d).2 (outM rs113q up113q) = giroref13_behind k d.1 d.2.1 d.2.2.1 d.2.2.2.1 d.2.2.2.2.1 d.2.2.2.2.2.1 d.2.2.2.2.2.2.1 d.2.2.2.2.2.2.2.1 := by
  obtain ⟨_, _, _, _, _, _, _, _, _⟩ := d
  kernel_rfl
theorem Ro113q : EntryOK Proofs.Try.prog R113q := fun k _ _ _ _ _ hy =>
  entry_sound (unpack := up113q) (A := A113q) (k := k) (pre := 1000) (na := 0) (E := E113q) Eo113q El113q mixed_orders (f := 102) (fn := Proofs.Try.f102) (by kernel_rfl) (body_loops (loopsOK_of (n := 1) (by kernel_rfl) fun i hi => match i, hi with | 0, _ => ⟨L113_0q, by kernel_rfl, lk113_0q⟩ | i + 1, hi => absurd hi (by omega))) (enters (fn := Proofs.Try.f102) (by kernel_rfl) (by kernel_rfl) (by kernel_rfl)) (fun _ => rfl) (ev113q k) hy
theorem Rl113q : EntryLocal R113q.2 := entry_local (S := fun k (d : AD as113q) => giroref13_behind k d.1 d.2.1 d.2.2.1 d.2.2.2.1 d.2.2.2.2.1 d.2.2.2.2.2.1 d.2.2.2.2.2.2.1 d.2.2.2.2.2.2.2.1)

/-! ### giro/giroref13.insert -/
noncomputable def E114q : Env := ⟨Proofs.Try.prog, fun _ => false, sumsOf []⟩
def A114q : Notes := ⟨[], []⟩
theorem Eo114q : EnvOK E114q := ⟨eqOK_none, sumsOf_ok (List.forall_mem_nil _)⟩
theorem El114q : SumsLocal E114q.sums := sumsOf_local (List.forall_mem_nil _)
def as114q : List AS := [.c (.dat false y7q), .c (.int .i64), .agg [.int .i64, .int .i64, .int .i64, .int .i64, .int .i64, .int .i64, .int .i64]]
def rs114q : RS := .c (.own y7q)
def pk114q : List K1q → RL rs114q.cells := fun x => (x, ())
def up114q : RL rs114q.cells → List K1q := fun d => d.1
def R114q : Nat × Entry := (101, fun k nm args h => entry as114q rs114q (fun d => giroref13_insert k d.1 d.2.1 d.2.2.1 d.2.2.2.1 d.2.2.2.2.1 d.2.2.2.2.2.1 d.2.2.2.2.2.2.1 d.2.2.2.2.2.2.2.1 d.2.2.2.2.2.2.2.2.1) pk114q nm args h)
theorem ev114q (k : Nat) (d : AD as114q) : evF E114q A114q k 1000 0 Proofs.Try.f101 (absArgs as114q d).1 (absArgs as114q d).2 (outM rs114q up114q) = giroref13_insert k d.1 d.2.1 d.2.2.1 d.2.2.2.1 d.2.2.2.2.1 d.2.2.2.2.2.1 d.2.2.2.2.2.2.1 d.2.2.2.2.2.2.2.1 d.2.2.2.2.2.2.2.2.1 := by
  obtain ⟨_, _, _, _, _, _, _, _, _, _⟩ := d
  kernel_rfl
theorem Ro114q : EntryOK Proofs.Try.prog R114q := fun k _ _ _ _ _ hy =>
  entry_sound (unpack := up114q) (A := A114q) (k := k) (pre := 1000) (na := 0) (E := E114q) Eo114q El114q mixed_orders (f := 101) (fn := Proofs.Try.f101) (by kernel_rfl) (body_loops (loopsOK_none (by kernel_rfl))) (enters (fn := Proofs.Try.f101) (by kernel_rfl) (by kernel_rfl) (by kernel_rfl)) (fun _ => rfl) (ev114q k) hy
theorem Rl114q : EntryLocal R114q.2 := entry_local (S := fun k (d : AD as114q) => giroref13_insert k d.1 d.2.1 d.2.2.1 d.2.2.2.1 d.2.2.2.2.1 d.2.2.2.2.2.1 d.2.2.2.2.2.2.1 d.2.2.2.2.2.2.2.1 d.2.2.2.2.2.2.2.2.1)

/-! ### giro/giroref13.Put -/
noncomputable def E115q : Env := ⟨Proofs.Try.prog, fun _ => false, sumsOf [R48q, R113q, R114q]⟩
def A115q : Notes := ⟨[], []⟩
theorem Eo115q : EnvOK E115q := ⟨eqOK_none, sumsOf_ok (List.forall_mem_cons.2 ⟨Ro48q, List.forall_mem_cons.2 ⟨Ro113q, List.forall_mem_cons.2 ⟨Ro114q, List.forall_mem_nil _⟩⟩⟩)⟩
theorem El115q : SumsLocal E115q.sums := sumsOf_local (List.forall_mem_cons.2 ⟨Rl48q, List.forall_mem_cons.2 ⟨Rl113q, List.forall_mem_cons.2 ⟨Rl114q, List.forall_mem_nil _⟩⟩⟩)
def as115q : List AS := [.c (.dat true y7q), .agg [.int .i64, .int .i64, .int .i64, .int .i64, .int .i64, .int .i64, .int .i64]]
def rs115q : RS := .tup [(false, [.fro y7q]), (false, [.int .i64])]
def pk115q : (List K1q) × Int → RL rs115q.cells := fun x => (x.1, x.2, ())
def up115q : RL rs115q.cells → (List K1q) × Int := fun d => (d.1, d.2.1)
def R115q : Nat × Entry := (75, fun k nm args h => entry as115q rs115q (fun d => giroref13_Put k d.1 d.2.1 d.2.2.1 d.2.2.2.1 d.2.2.2.2.1 d.2.2.2.2.2.1 d.2.2.2.2.2.2.1 d.2.2.2.2.2.2.2.1) pk115q nm args h)
theorem ev115q (k : Nat) (d : AD as115q) : evF E115q A115q k 1000 0 Proofs.Try.f75 (absArgs as115q d).1 (absArgs as115q d).2 (outM rs115q up115q) = giroref13_Put k d.1 d.2.1 d.2.2.1 d.2.2.2.1 d.2.2.2.2.1 d.2.2.2.2.2.1 d.2.2.2.2.2.2.1 d.2.2.2.2.2.2.2.1 := by
  obtain ⟨_, _, _, _, _, _, _, _, _⟩ := d
  kernel_rfl
theorem Ro115q : EntryOK Proofs.Try.prog R115q := fun k _ _ _ _ _ hy =>
  entry_sound (unpack := up115q) (A := A115q) (k := k) (pre := 1000) (na := 0) (E := E115q) Eo115q El115q mixed_orders (f := 75) (fn := Proofs.Try.f75) (by kernel_rfl) (body_loops (loopsOK_none (by kernel_rfl))) (enters (fn := Proofs.Try.f75) (by kernel_rfl) (by kernel_rfl) (by kernel_rfl)) (fun _ => rfl) (ev115q k) hy
theorem Rl115q : EntryLocal R115q.2 := entry_local (S := fun k (d : AD as115q) => giroref13_Put k d.1 d.2.1 d.2.2.1 d.2.2.2.1 d.2.2.2.2.1 d.2.2.2.2.2.1 d.2.2.2.2.2.2.1 d.2.2.2.2.2.2.2.1)

/-! ### giro/girolaw18.rowed -/
noncomputable def E116q : Env := ⟨Proofs.Try.prog, fun _ => false, sumsOf [R115q]⟩
def I116_0q : Spec := ⟨[(0, .c (.dat false y7q)), (3, .c (.dat true y7q)), (4, .c (.int .i64))], [], []⟩
def X0_116_0q : Spec := ⟨[(3, .c (.dat true y7q))], [], []⟩
def O116_0q : List (Ex × Spec) := [(.exit 0, X0_116_0q)]
abbrev Z116_0q : Type := List K1q
def c116_0q (f : List K1q → List K1q → Int → Option Z116_0q) (d : I116_0q.den) : Option Z116_0q := f d.1.1.1 d.1.2.1.1 d.1.2.2.1.1
def T116_0q : OutD O116_0q → Z116_0q := fun d => d.1.1.1
def e116_0q (base : Nat) (x : Z116_0q) (R : Type) (K : Ex → St → Option R) : Option R := K (.exit 0) (stOf base X0_116_0q (((x, ()), ()), ()))
def L116_0q : LoopSum := ⟨I116_0q, O116_0q, Z116_0q, fun k d => c116_0q (girolaw18_rowed_L0 k k) d, e116_0q⟩
def A116q : Notes := ⟨[], [(3, L116_0q)]⟩
theorem Eo116q : EnvOK E116q := ⟨eqOK_none, sumsOf_ok (List.forall_mem_cons.2 ⟨Ro115q, List.forall_mem_nil _⟩)⟩
theorem El116q : SumsLocal E116q.sums := sumsOf_local (List.forall_mem_cons.2 ⟨Rl115q, List.forall_mem_nil _⟩)
theorem st116_0q (k : Nat) (rec : List K1q → List K1q → Int → Option Z116_0q) (d : I116_0q.den) : c116_0q (girolaw18_rowed_L0b k rec) d = evC E116q A116q k 1000 0 74 (loopAt (bodyOf Proofs.Try.f35) 0) (stOf (1000 + loopBase) I116_0q d) (roundK 1000 I116_0q O116_0q T116_0q (c116_0q rec)) := by
  obtain ⟨⟨⟨_, _⟩, ⟨_, _⟩, ⟨_, _⟩, _⟩, _⟩ := d
  kernel_rfl
theorem lk116_0q : LoopOK Proofs.Try.prog 1000 0 74 (loopAt (bodyOf Proofs.Try.f35) 0) L116_0q :=
  loop_sound (A := A116q) (inS := I116_0q) (outs := O116_0q) Eo116q El116q mixed_orders (loopsOK_none (by kernel_rfl)) T116_0q e116_0q (fun _ _ _ => rfl) (fun k n d => c116_0q (girolaw18_rowed_L0 k n) d) (fun _ _ => rfl) (fun k n d => st116_0q k (girolaw18_rowed_L0 k n) d)
def as116q : List AS := [.c (.dat false y7q)]
def rs116q : RS := .c (.fro y7q)
def pk116q : List K1q → RL rs116q.cells := fun x => (x, ())
def up116q : RL rs116q.cells → List K1q := fun d => d.1
def R116q : Nat × Entry := (35, fun k nm args h => entry as116q rs116q (fun d => girolaw18_rowed k d.1) pk116q nm args h)
theorem ev116q (k : Nat) (d : AD as116q) : evF E116q A116q k 1000 0 Proofs.Try.f35 (absArgs as116q d).1 (absArgs as116q d).2 (outM rs116q up116q) = girolaw18_rowed k d.1 := by
  obtain ⟨_, _⟩ := d
  kernel_rfl
theorem Ro116q : EntryOK Proofs.Try.prog R116q := fun k _ _ _ _ _ hy =>
  entry_sound (unpack := up116q) (A := A116q) (k := k) (pre := 1000) (na := 0) (E := E116q) Eo116q El116q mixed_orders (f := 35) (fn := Proofs.Try.f35) (by kernel_rfl) (body_loops (loopsOK_of (n := 1) (by kernel_rfl) fun i hi => match i, hi with | 0, _ => ⟨L116_0q, by kernel_rfl, lk116_0q⟩ | i + 1, hi => absurd hi (by omega))) (enters (fn := Proofs.Try.f35) (by kernel_rfl) (by kernel_rfl) (by kernel_rfl)) (fun _ => rfl) (ev116q k) hy
theorem Rl116q : EntryLocal R116q.2 := entry_local (S := fun k (d : AD as116q) => girolaw18_rowed k d.1)

/-! ### giro/girolaw18.FreeEnds -/
noncomputable def E_girolaw18_FreeEnds : Env := ⟨Proofs.Try.prog, fun _ => false, sumsOf [R110q, R116q, R90q, R94q, R48q, R103q, R100q, R106q, R105q, R41q, R108q, R111q]⟩
def I_girolaw18_FreeEnds_L0 : Spec := ⟨[(3, .c (.int .i64)), (11, .c (.lit (.ptr 1001000 0))), (12, .c (.dat true y7q)), (13, .c (.lit (.osl 1001001 none))), (14, .c (.lit (.ptr 1001002 0))), (15, .c (.dat true y7q)), (16, .c (.int .i64))], [.box true [.dat true y3q, .dat true (.sl (.int .i64)), .dat true (.int .i64), .dat true (.sl (.int .i64))], .arr true y7q, .box true [.dat true y3q, .dat true (.sl (.int .i64)), .dat true (.int .i64), .dat true (.sl (.int .i64))]], [(14, some 0, .bool, true), (14, some 1, .bool, true), (14, some 2, .bool, true), (14, some 3, .bool, true)]⟩
def X0_girolaw18_FreeEnds_L0 : Spec := ⟨[(3, .c (.int .i64)), (11, .c (.lit (.ptr 1001000 0))), (12, .c (.dat true y7q)), (14, .c (.lit (.ptr 1001001 0))), (15, .c (.dat true y7q))], [.box true [.dat true y3q, .dat true (.sl (.int .i64)), .dat true (.int .i64), .dat true (.sl (.int .i64))], .box true [.dat true y3q, .dat true (.sl (.int .i64)), .dat true (.int .i64), .dat true (.sl (.int .i64))]], []⟩
def X1_girolaw18_FreeEnds_L0 : Spec := ⟨[(8, .c (.bool))], [], []⟩
def O_girolaw18_FreeEnds_L0 : List (Ex × Spec) := [(.exit 0, X0_girolaw18_FreeEnds_L0), (.ret, X1_girolaw18_FreeEnds_L0)]
abbrev Z_girolaw18_FreeEnds_L0 : Type := (Int × (List K1q) × (List K1q) × (List K2q) × (List (List Int)) × (List Int) × (List (List Int)) × (List K2q) × (List (List Int)) × (List Int) × (List (List Int))) ⊕ Bool
def c_girolaw18_FreeEnds_L0 (f : Int → List K1q → List K1q → Int → List K2q → List (List Int) → List Int → List (List Int) → List K1q → List K2q → List (List Int) → List Int → List (List Int) → Option Z_girolaw18_FreeEnds_L0) (d : I_girolaw18_FreeEnds_L0.den) : Option Z_girolaw18_FreeEnds_L0 := f d.1.1.1 d.1.2.2.1.1 d.1.2.2.2.2.2.1.1 d.1.2.2.2.2.2.2.1.1 d.2.1.1 d.2.1.2.1 d.2.1.2.2.1 d.2.1.2.2.2.1 d.2.2.1 d.2.2.2.1.1 d.2.2.2.1.2.1 d.2.2.2.1.2.2.1 d.2.2.2.1.2.2.2.1
def T_girolaw18_FreeEnds_L0 : OutD O_girolaw18_FreeEnds_L0 → Z_girolaw18_FreeEnds_L0
 | .inl d => .inl (d.1.1.1, d.1.2.2.1.1, d.1.2.2.2.2.1.1, d.2.1.1, d.2.1.2.1, d.2.1.2.2.1, d.2.1.2.2.2.1, d.2.2.1.1, d.2.2.1.2.1, d.2.2.1.2.2.1, d.2.2.1.2.2.2.1)
 | .inr d => .inr d.1.1.1
def e_girolaw18_FreeEnds_L0 (base : Nat) (x : Z_girolaw18_FreeEnds_L0) (R : Type) (K : Ex → St → Option R) : Option R := match x with
 | .inl x => K (.exit 0) (stOf base X0_girolaw18_FreeEnds_L0 (((x.1, ()), (), (x.2.1, ()), (), (x.2.2.1, ()), ()), ((x.2.2.2.1, x.2.2.2.2.1, x.2.2.2.2.2.1, x.2.2.2.2.2.2.1, ()), (x.2.2.2.2.2.2.2.1, x.2.2.2.2.2.2.2.2.1, x.2.2.2.2.2.2.2.2.2.1, x.2.2.2.2.2.2.2.2.2.2, ()), ())))
 | .inr x => K .ret (stOf base X1_girolaw18_FreeEnds_L0 (((x, ()), ()), ()))
def L_girolaw18_FreeEnds_L0 : LoopSum := ⟨I_girolaw18_FreeEnds_L0, O_girolaw18_FreeEnds_L0, Z_girolaw18_FreeEnds_L0, fun k d => c_girolaw18_FreeEnds_L0 (girolaw18_FreeEnds_L0 k k) d, e_girolaw18_FreeEnds_L0⟩
def A_girolaw18_FreeEnds : Notes := ⟨[], [(7, L_girolaw18_FreeEnds_L0)]⟩
theorem E_girolaw18_FreeEnds_ok : EnvOK E_girolaw18_FreeEnds := ⟨eqOK_none, sumsOf_ok (List.forall_mem_cons.2 ⟨Ro110q, List.forall_mem_cons.2 ⟨Ro116q, List.forall_mem_cons.2 ⟨Ro90q, List.forall_mem_cons.2 ⟨Ro94q, List.forall_mem_cons.2 ⟨Ro48q, List.forall_mem_cons.2 ⟨Ro103q, List.forall_mem_cons.2 ⟨Ro100q, List.forall_mem_cons.2 ⟨Ro106q, List.forall_mem_cons.2 ⟨Ro105q, List.forall_mem_cons.2 ⟨Ro41q, List.forall_mem_cons.2 ⟨Ro108q, List.forall_mem_cons.2 ⟨Ro111q, List.forall_mem_nil _⟩⟩⟩⟩⟩⟩⟩⟩⟩⟩⟩⟩)⟩
theorem E_girolaw18_FreeEnds_local : SumsLocal E_girolaw18_FreeEnds.sums := sumsOf_local (List.forall_mem_cons.2 ⟨Rl110q, List.forall_mem_cons.2 ⟨Rl116q, List.forall_mem_cons.2 ⟨Rl90q, List.forall_mem_cons.2 ⟨Rl94q, List.forall_mem_cons.2 ⟨Rl48q, List.forall_mem_cons.2 ⟨Rl103q, List.forall_mem_cons.2 ⟨Rl100q, List.forall_mem_cons.2 ⟨Rl106q, List.forall_mem_cons.2 ⟨Rl105q, List.forall_mem_cons.2 ⟨Rl41q, List.forall_mem_cons.2 ⟨Rl108q, List.forall_mem_cons.2 ⟨Rl111q, List.forall_mem_nil _⟩⟩⟩⟩⟩⟩⟩⟩⟩⟩⟩⟩)
theorem girolaw18_FreeEnds_L0_step (k : Nat) (rec : Int → List K1q → List K1q → Int → List K2q → List (List Int) → List Int → List (List Int) → List K1q → List K2q → List (List Int) → List Int → List (List Int) → Option Z_girolaw18_FreeEnds_L0) (d : I_girolaw18_FreeEnds_L0.den) : c_girolaw18_FreeEnds_L0 (girolaw18_FreeEnds_L0b k rec) d = evC E_girolaw18_FreeEnds A_girolaw18_FreeEnds k 1000 0 119 (loopAt (bodyOf Proofs.Try.f7) 0) (stOf (1000 + loopBase) I_girolaw18_FreeEnds_L0 d) (roundK 1000 I_girolaw18_FreeEnds_L0 O_girolaw18_FreeEnds_L0 T_girolaw18_FreeEnds_L0 (c_girolaw18_FreeEnds_L0 rec)) := by
  obtain ⟨⟨⟨_, _⟩, _, ⟨_, _⟩, _, _, ⟨_, _⟩, ⟨_, _⟩, _⟩, ⟨⟨_, _, _, _, _⟩, _, ⟨_, _, _, _, _⟩, _⟩⟩ := d
  kernel_rfl
theorem girolaw18_FreeEnds_L0_ok : LoopOK Proofs.Try.prog 1000 0 119 (loopAt (bodyOf Proofs.Try.f7) 0) L_girolaw18_FreeEnds_L0 :=
  loop_sound (A := A_girolaw18_FreeEnds) (inS := I_girolaw18_FreeEnds_L0) (outs := O_girolaw18_FreeEnds_L0) E_girolaw18_FreeEnds_ok E_girolaw18_FreeEnds_local mixed_orders (loopsOK_none (by kernel_rfl)) T_girolaw18_FreeEnds_L0 e_girolaw18_FreeEnds_L0 (by intro o R K; rcases o with o | o <;> rfl) (fun k n d => c_girolaw18_FreeEnds_L0 (girolaw18_FreeEnds_L0 k n) d) (fun _ _ => rfl) (fun k n d => girolaw18_FreeEnds_L0_step k (girolaw18_FreeEnds_L0 k n) d)
def as_girolaw18_FreeEnds : List AS := [.c (.dat false (.int .i64)), .c (.int .i64), .c (.dat false y7q), .c (.int .i64)]
def rs_girolaw18_FreeEnds : RS := .c (.bool)
def pk_girolaw18_FreeEnds : Bool → RL rs_girolaw18_FreeEnds.cells := fun x => (x, ())
def up_girolaw18_FreeEnds : RL rs_girolaw18_FreeEnds.cells → Bool := fun d => d.1
def R_girolaw18_FreeEnds : Nat × Entry := (7, fun k nm args h => entry as_girolaw18_FreeEnds rs_girolaw18_FreeEnds (fun d => girolaw18_FreeEnds k d.1 d.2.1 d.2.2.1 d.2.2.2.1) pk_girolaw18_FreeEnds nm args h)
theorem girolaw18_FreeEnds_ev (k : Nat) (d : AD as_girolaw18_FreeEnds) : evF E_girolaw18_FreeEnds A_girolaw18_FreeEnds k 1000 0 Proofs.Try.f7 (absArgs as_girolaw18_FreeEnds d).1 (absArgs as_girolaw18_FreeEnds d).2 (outM rs_girolaw18_FreeEnds up_girolaw18_FreeEnds) = girolaw18_FreeEnds k d.1 d.2.1 d.2.2.1 d.2.2.2.1 := by
  obtain ⟨_, _, _, _, _⟩ := d
  kernel_rfl
theorem R_girolaw18_FreeEnds_ok : EntryOK Proofs.Try.prog R_girolaw18_FreeEnds := fun k _ _ _ _ _ hy =>
  entry_sound (unpack := up_girolaw18_FreeEnds) (A := A_girolaw18_FreeEnds) (k := k) (pre := 1000) (na := 0) (E := E_girolaw18_FreeEnds) E_girolaw18_FreeEnds_ok E_girolaw18_FreeEnds_local mixed_orders (f := 7) (fn := Proofs.Try.f7) (by kernel_rfl) (body_loops (loopsOK_of (n := 1) (by kernel_rfl) fun i hi => match i, hi with | 0, _ => ⟨L_girolaw18_FreeEnds_L0, by kernel_rfl, girolaw18_FreeEnds_L0_ok⟩ | i + 1, hi => absurd hi (by omega))) (enters (fn := Proofs.Try.f7) (by kernel_rfl) (by kernel_rfl) (by kernel_rfl)) (fun _ => rfl) (girolaw18_FreeEnds_ev k) hy
theorem R_girolaw18_FreeEnds_local : EntryLocal R_girolaw18_FreeEnds.2 := entry_local (S := fun k (d : AD as_girolaw18_FreeEnds) => girolaw18_FreeEnds k d.1 d.2.1 d.2.2.1 d.2.2.2.1)

end Go.Ab.Gi
