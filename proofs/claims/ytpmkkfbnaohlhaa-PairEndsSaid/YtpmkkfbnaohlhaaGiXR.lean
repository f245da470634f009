/- The shallow functions are what the program does, printed (abprint.py). -/
import Derived.Test.YtpmkkfbnaohlhaaGiXRa
set_option linter.unusedVariables false
set_option maxRecDepth 100000
namespace Go.Ab.Gi

/-! ### giro/giroref11.Same -/
noncomputable def E108q : Env := ⟨Proofs.Try.prog, fun t => [51].any (Nat.beq t), sumsOf []⟩
def I108_0q : Spec := ⟨[(0, .c (.dat false y7q)), (1, .c (.dat false y7q)), (5, .c (.int .i64))], [], []⟩
def X0_108_0q : Spec := ⟨[], [], []⟩
def X1_108_0q : Spec := ⟨[(4, .c (.bool))], [], []⟩
def O108_0q : List (Ex × Spec) := [(.exit 0, X0_108_0q), (.ret, X1_108_0q)]
abbrev Z108_0q : Type := Unit ⊕ Bool
def c108_0q (f : List K1q → List K1q → Int → Option Z108_0q) (d : I108_0q.den) : Option Z108_0q := f d.1.1.1 d.1.2.1.1 d.1.2.2.1.1
def T108_0q : OutD O108_0q → Z108_0q
 | .inl d => .inl ()
 | .inr d => .inr d.1.1.1
def e108_0q (base : Nat) (x : Z108_0q) (R : Type) (K : Ex → St → Option R) : Option R := match x with
 | .inl x => K (.exit 0) (stOf base X0_108_0q ((), ()))
 | .inr x => K .ret (stOf base X1_108_0q (((x, ()), ()), ()))
def L108_0q : LoopSum := ⟨I108_0q, O108_0q, Z108_0q, fun k d => c108_0q (giroref11_Same_L0 k k) d, e108_0q⟩
def A108q : Notes := ⟨[], [(4, L108_0q)]⟩
theorem Eo108q : EnvOK E108q := ⟨eqOK_flat (fun t h => eqT_mem (p := fun t => !Proofs.Try.prog.stoodInHeld t && !Proofs.Try.prog.eqGuardType Proofs.Try.prog.depth t) (l := [51]) (List.forall_mem_cons.2 ⟨by kernel_rfl, List.forall_mem_nil _⟩) t h), sumsOf_ok (List.forall_mem_nil _)⟩
theorem El108q : SumsLocal E108q.sums := sumsOf_local (List.forall_mem_nil _)
theorem st108_0q (k : Nat) (rec : List K1q → List K1q → Int → Option Z108_0q) (d : I108_0q.den) : c108_0q (giroref11_Same_L0b k rec) d = evC E108q A108q k 1000 0 26 (loopAt (bodyOf Proofs.Try.f42) 0) (stOf (1000 + loopBase) I108_0q d) (roundK 1000 I108_0q O108_0q T108_0q (c108_0q rec)) := by
  obtain ⟨⟨⟨_, _⟩, ⟨_, _⟩, ⟨_, _⟩, _⟩, _⟩ := d
  kernel_rfl
theorem lk108_0q : LoopOK Proofs.Try.prog 1000 0 26 (loopAt (bodyOf Proofs.Try.f42) 0) L108_0q :=
  loop_sound (A := A108q) (inS := I108_0q) (outs := O108_0q) Eo108q El108q mixed_orders (loopsOK_none (by kernel_rfl)) T108_0q e108_0q (by intro o R K; rcases o with o | o <;> rfl) (fun k n d => c108_0q (giroref11_Same_L0 k n) d) (fun _ _ => rfl) (fun k n d => st108_0q k (giroref11_Same_L0 k n) d)
def as108q : List AS := [.c (.dat false y7q), .c (.dat false y7q)]
def rs108q : RS := .c (.bool)
def pk108q : Bool → RL rs108q.cells := fun x => (x, ())
def up108q : RL rs108q.cells → Bool := fun d => d.1
def R108q : Nat × Entry := (42, fun k nm args h => entry as108q rs108q (fun d => giroref11_Same k d.1 d.2.1) pk108q nm args h)
theorem ev108q (k : Nat) (d : AD as108q) : evF E108q A108q k 1000 0 Proofs.Try.f42 (absArgs as108q d).1 (absArgs as108q d).2 (outM rs108q up108q) = giroref11_Same k d.1 d.2.1 := by
  obtain ⟨_, _, _⟩ := d
  kernel_rfl
theorem Ro108q : EntryOK Proofs.Try.prog R108q := fun k _ _ _ _ _ hy =>
  entry_sound (unpack := up108q) (A := A108q) (k := k) (pre := 1000) (na := 0) (E := E108q) Eo108q El108q mixed_orders (f := 42) (fn := Proofs.Try.f42) (by kernel_rfl) (body_loops (loopsOK_of (n := 1) (by kernel_rfl) fun i hi => match i, hi with | 0, _ => ⟨L108_0q, by kernel_rfl, lk108_0q⟩ | i + 1, hi => absurd hi (by omega))) (enters (fn := Proofs.Try.f42) (by kernel_rfl) (by kernel_rfl) (by kernel_rfl)) (fun _ => rfl) (ev108q k) hy
theorem Rl108q : EntryLocal R108q.2 := entry_local (S := fun k (d : AD as108q) => giroref11_Same k d.1 d.2.1)

/-! ### giro/giroref13.behind -/
noncomputable def E113q : Env := ⟨Proofs.Try.prog, fun _ => false, sumsOf [R49q]⟩
def I113_0q : Spec := ⟨[(0, .c (.dat false y7q)), (3, .c (.lit (.ptr 1001000 0))), (5, .c (.int .i64))], [.box true [.int .i64, .int .i64, .int .i64, .int .i64, .int .i64, .int .i64, .int .i64]], []⟩
def X0_113_0q : Spec := ⟨[(5, .c (.int .i64))], [], []⟩
def O113_0q : List (Ex × Spec) := [(.exit 0, X0_113_0q)]
abbrev Z113_0q : Type := Int
def c113_0q (f : List K1q → Int → Int → Int → Int → Int → Int → Int → Int → Option Z113_0q) (d : I113_0q.den) : Option Z113_0q := f d.1.1.1 d.1.2.2.1.1 d.2.1.1 d.2.1.2.1 d.2.1.2.2.1 d.2.1.2.2.2.1 d.2.1.2.2.2.2.1 d.2.1.2.2.2.2.2.1 d.2.1.2.2.2.2.2.2.1
def T113_0q : OutD O113_0q → Z113_0q := fun d => d.1.1.1
def e113_0q (base : Nat) (x : Z113_0q) (R : Type) (K : Ex → St → Option R) : Option R := K (.exit 0) (stOf base X0_113_0q (((x, ()), ()), ()))
def L113_0q : LoopSum := ⟨I113_0q, O113_0q, Z113_0q, fun k d => c113_0q (giroref13_behind_L0 k k) d, e113_0q⟩
def A113q : Notes := ⟨[], [(2, L113_0q)]⟩
theorem Eo113q : EnvOK E113q := ⟨eqOK_none, sumsOf_ok (List.forall_mem_cons.2 ⟨Ro49q, List.forall_mem_nil _⟩)⟩
theorem El113q : SumsLocal E113q.sums := sumsOf_local (List.forall_mem_cons.2 ⟨Rl49q, List.forall_mem_nil _⟩)
theorem st113_0q (k : Nat) (rec : List K1q → Int → Int → Int → Int → Int → Int → Int → Int → Option Z113_0q) (d : I113_0q.den) : c113_0q (giroref13_behind_L0b k rec) d = evC E113q A113q k 1000 0 21 (loopAt (bodyOf Proofs.Try.f102) 0) (stOf (1000 + loopBase) I113_0q d) (roundK 1000 I113_0q O113_0q T113_0q (c113_0q rec)) := by
  obtain ⟨⟨⟨_, _⟩, _, ⟨_, _⟩, _⟩, ⟨⟨_, _, _, _, _, _, _, _⟩, _⟩⟩ := d
  kernel_rfl
theorem lk113_0q : LoopOK Proofs.Try.prog 1000 0 21 (loopAt (bodyOf Proofs.Try.f102) 0) L113_0q :=
  loop_sound (A := A113q) (inS := I113_0q) (outs := O113_0q) Eo113q El113q mixed_orders (loopsOK_none (by kernel_rfl)) T113_0q e113_0q (fun _ _ _ => rfl) (fun k n d => c113_0q (giroref13_behind_L0 k n) d) (fun _ _ => rfl) (fun k n d => st113_0q k (giroref13_behind_L0 k n) d)
def as113q : List AS := [.c (.dat false y7q), .agg [.int .i64, .int .i64, .int .i64, .int .i64, .int .i64, .int .i64, .int .i64]]
def rs113q : RS := .c (.int .i64)
def pk113q : Int → RL rs113q.cells := fun x => (x, ())
def up113q : RL rs113q.cells → Int := fun d => d.1
def R113q : Nat × Entry := (102, fun k nm args h => entry as113q rs113q (fun d => giroref13_behind k d.1 d.2.1 d.2.2.1 d.2.2.2.1 d.2.2.2.2.1 d.2.2.2.2.2.1 d.2.2.2.2.2.2.1 d.2.2.2.2.2.2.2.1) pk113q nm args h)
theorem ev113q (k : Nat) (d : AD as113q) : evF E113q A113q k 1000 0 Proofs.Try.f102 (absArgs as113q d).1 (absArgs as113q d).2 (outM rs113q up113q) = giroref13_behind k d.1 d.2.1 d.2.2.1 d.2.2.2.1 d.2.2.2.2.1 d.2.2.2.2.2.1 d.2.2.2.2.2.2.1 d.2.2.2.2.2.2.2.1 := by
  obtain ⟨_, _, _, _, _, _, _, _, _⟩ := d
  kernel_rfl
theorem Ro113q : EntryOK Proofs.Try.prog R113q := fun k _ _ _ _ _ hy =>
  entry_sound (unpack := up113q) (A := A113q) (k := k) (pre := 1000) (na := 0) (E := E113q) Eo113q El113q mixed_orders (f := 102) (fn := Proofs.Try.f102) (by kernel_rfl) (body_loops (loopsOK_of (n := 1) (by kernel_rfl) fun i hi => match i, hi with | 0, _ => ⟨L113_0q, by kernel_rfl, lk113_0q⟩ | i + 1, hi => absurd hi (by omega))) (enters (fn := Proofs.Try.f102) (by kernel_rfl) (by kernel_rfl) (by kernel_rfl)) (fun _ => rfl) (ev113q k) hy
theorem Rl113q : EntryLocal R113q.2 := entry_local (S := fun k (d : AD as113q) => giroref13_behind k d.1 d.2.1 d.2.2.1 d.2.2.2.1 d.2.2.2.2.1 d.2.2.2.2.2.1 d.2.2.2.2.2.2.1 d.2.2.2.2.2.2.2.1)

/-! ### giro/giroref13.insert -/
noncomputable def E114q : Env := ⟨Proofs.Try.prog, fun _ => false, sumsOf []⟩
def A114q : Notes := ⟨[], []⟩
theorem Eo114q : EnvOK E114q := ⟨eqOK_none, sumsOf_ok (List.forall_mem_nil _)⟩
theorem El114q : SumsLocal E114q.sums := sumsOf_local (List.forall_mem_nil _)
def as114q : List AS := [.c (.dat false y7q), .c (.int .i64), .agg [.int .i64, .int .i64, .int .i64, .int .i64, .int .i64, .int .i64, .int .i64]]
def rs114q : RS := .c (.own y7q)
def pk114q : List K1q → RL rs114q.cells := fun x => (x, ())
def up114q : RL rs114q.cells → List K1q := fun d => d.1
def R114q : Nat × Entry := (101, fun k nm args h => entry as114q rs114q (fun d => giroref13_insert k d.1 d.2.1 d.2.2.1 d.2.2.2.1 d.2.2.2.2.1 d.2.2.2.2.2.1 d.2.2.2.2.2.2.1 d.2.2.2.2.2.2.2.1 d.2.2.2.2.2.2.2.2.1) pk114q nm args h)
theorem ev114q (k : Nat) (d : AD as114q) : evF E114q A114q k 1000 0 Proofs.Try.f101 (absArgs as114q d).1 (absArgs as114q d).2 (outM rs114q up114q) = giroref13_insert k d.1 d.2.1 d.2.2.1 d.2.2.2.1 d.2.2.2.2.1 d.2.2.2.2.2.1 d.2.2.2.2.2.2.1 d.2.2.2.2.2.2.2.1 d.2.2.2.2.2.2.2.2.1 := by
  obtain ⟨_, _, _, _, _, _, _, _, _, _⟩ := d
  kernel_rfl
theorem Ro114q : EntryOK Proofs.Try.prog R114q := fun k _ _ _ _ _ hy =>
  entry_sound (unpack := up114q) (A := A114q) (k := k) (pre := 1000) (na := 0) (E := E114q) Eo114q El114q mixed_orders (f := 101) (fn := Proofs.Try.f101) (by kernel_rfl) (body_loops (loopsOK_none (by kernel_rfl))) (enters (fn := Proofs.Try.f101) (by kernel_rfl) (by kernel_rfl) (by kernel_rfl)) (fun _ => rfl) (ev114q k) hy
theorem Rl114q : EntryLocal R114q.2 := entry_local (S := fun k (d : AD as114q) => giroref13_insert k d.1 d.2.1 d.2.2.1 d.2.2.2.1 d.2.2.2.2.1 d.2.2.2.2.2.1 d.2.2.2.2.2.2.1 d.2.2.2.2.2.2.2.1 d.2.2.2.2.2.2.2.2.1)

/-! ### giro/giroref13.Put -/
noncomputable def E115q : Env := ⟨Proofs.Try.prog, fun _ => false, sumsOf [R48q, R113q, R114q]⟩
def A115q : Notes := ⟨[], []⟩
theorem Eo115q : EnvOK E115q := ⟨eqOK_none, sumsOf_ok (List.forall_mem_cons.2 ⟨Ro48q, List.forall_mem_cons.2 ⟨Ro113q, List.forall_mem_cons.2 ⟨Ro114q, List.forall_mem_nil _⟩⟩⟩)⟩
theorem El115q : SumsLocal E115q.sums := sumsOf_local (List.forall_mem_cons.2 ⟨Rl48q, List.forall_mem_cons.2 ⟨Rl113q, List.forall_mem_cons.2 ⟨Rl114q, List.forall_mem_nil _⟩⟩⟩)
def as115q : List AS := [.c (.dat true y7q), .agg [.int .i64, .int .i64, .int .i64, .int .i64, .int .i64, .int .i64, .int .i64]]
def rs115q : RS := .tup [(false, [.fro y7q]), (false, [.int .i64])]
def pk115q : (List K1q) × Int → RL rs115q.cells := fun x => (x.1, x.2, ())
def up115q : RL rs115q.cells → (List K1q) × Int := fun d => (d.1, d.2.1)
def R115q : Nat × Entry := (75, fun k nm args h => entry as115q rs115q (fun d => giroref13_Put k d.1 d.2.1 d.2.2.1 d.2.2.2.1 d.2.2.2.2.1 d.2.2.2.2.2.1 d.2.2.2.2.2.2.1 d.2.2.2.2.2.2.2.1) pk115q nm args h)
theorem ev115q (k : Nat) (d : AD as115q) : evF E115q A115q k 1000 0 Proofs.Try.f75 (absArgs as115q d).1 (absArgs as115q d).2 (outM rs115q up115q) = giroref13_Put k d.1 d.2.1 d.2.2.1 d.2.2.2.1 d.2.2.2.2.1 d.2.2.2.2.2.1 d.2.2.2.2.2.2.1 d.2.2.2.2.2.2.2.1 := by
  obtain ⟨_, _, _, _, _, _, _, _, _⟩ := d
  kernel_rfl
theorem Ro115q : EntryOK Proofs.Try.prog R115q := fun k _ _ _ _ _ hy =>
  entry_sound (unpack := up115q) (A := A115q) (k := k) (pre := 1000) (na := 0) (E := E115q) Eo115q El115q mixed_orders (f := 75) (fn := Proofs.Try.f75) (by kernel_rfl) (body_loops (loopsOK_none (by kernel_rfl))) (enters (fn := Proofs.Try.f75) (by kernel_rfl) (by kernel_rfl) (by kernel_rfl)) (fun _ => rfl) (ev115q k) hy
theorem Rl115q : EntryLocal R115q.2 := entry_local (S := fun k (d : AD as115q) => giroref13_Put k d.1 d.2.1 d.2.2.1 d.2.2.2.1 d.2.2.2.2.1 d.2.2.2.2.2.1 d.2.2.2.2.2.2.1 d.2.2.2.2.2.2.2.1)

/-! ### giro/girolaw19.some -/
noncomputable def E121q : Env := ⟨Proofs.Try.prog, fun _ => false, sumsOf []⟩
def I121_0q : Spec := ⟨[(0, .c (.dat false (.int .i64))), (1, .c (.int .i64)), (4, .c (.lit (.ptr 1001000 0))), (5, .c (.lit (.ptr 1001001 0))), (6, .c (.int .i64))], [.box true [.lit .nsl, .lit .nsl, .lit .nsl, .lit .nsl], .box true [.lit (.osl 1001002 none), .lit (.osl 1001003 none), .lit (.osl 1001004 none), .lit (.osl 1001005 none)], .arr true y3q, .mat, .arr true (.int .i64), .mat], [(5, some 0, y3q, false)]⟩
def X0_121_0q : Spec := ⟨[(1, .c (.int .i64)), (4, .c (.lit (.ptr 1001000 0))), (5, .c (.lit (.ptr 1001001 0)))], [.box true [.lit .nsl, .lit .nsl, .lit .nsl, .lit .nsl], .box true [.lit (.osl 1001002 none), .lit (.osl 1001003 none), .lit (.osl 1001004 none), .lit (.osl 1001005 none)], .arr true y3q, .mat, .arr true (.int .i64), .mat], []⟩
def O121_0q : List (Ex × Spec) := [(.exit 0, X0_121_0q)]
abbrev Z121_0q : Type := Int × (List K2q) × (List (List Int)) × (List Int) × (List (List Int))
def c121_0q (f : List Int → Int → Int → List K2q → List (List Int) → List Int → List (List Int) → Option Z121_0q) (d : I121_0q.den) : Option Z121_0q := f d.1.1.1 d.1.2.1.1 d.1.2.2.2.2.1.1 d.2.2.2.1 d.2.2.2.2.1 d.2.2.2.2.2.1 d.2.2.2.2.2.2.1
def T121_0q : OutD O121_0q → Z121_0q := fun d => (d.1.1.1, d.2.2.2.1, d.2.2.2.2.1, d.2.2.2.2.2.1, d.2.2.2.2.2.2.1)
def e121_0q (base : Nat) (x : Z121_0q) (R : Type) (K : Ex → St → Option R) : Option R := K (.exit 0) (stOf base X0_121_0q (((x.1, ()), (), (), ()), ((), (), x.2.1, x.2.2.1, x.2.2.2.1, x.2.2.2.2, ())))
def L121_0q : LoopSum := ⟨I121_0q, O121_0q, Z121_0q, fun k d => c121_0q (girolaw19_some_L0 k k) d, e121_0q⟩
def A121q : Notes := ⟨[11, 16], [(3, L121_0q)]⟩
theorem Eo121q : EnvOK E121q := ⟨eqOK_none, sumsOf_ok (List.forall_mem_nil _)⟩
theorem El121q : SumsLocal E121q.sums := sumsOf_local (List.forall_mem_nil _)
theorem st121_0q (k : Nat) (rec : List Int → Int → Int → List K2q → List (List Int) → List Int → List (List Int) → Option Z121_0q) (d : I121_0q.den) : c121_0q (girolaw19_some_L0b k rec) d = evC E121q A121q k 1000 0 91 (loopAt (bodyOf Proofs.Try.f44) 0) (stOf (1000 + loopBase) I121_0q d) (roundK 1000 I121_0q O121_0q T121_0q (c121_0q rec)) := by
  obtain ⟨⟨⟨_, _⟩, ⟨_, _⟩, _, _, ⟨_, _⟩, _⟩, ⟨_, _, _, _, _, _, _⟩⟩ := d
  kernel_rfl
theorem lk121_0q : LoopOK Proofs.Try.prog 1000 0 91 (loopAt (bodyOf Proofs.Try.f44) 0) L121_0q :=
  loop_sound (A := A121q) (inS := I121_0q) (outs := O121_0q) Eo121q El121q mixed_orders (loopsOK_none (by kernel_rfl)) T121_0q e121_0q (fun _ _ _ => rfl) (fun k n d => c121_0q (girolaw19_some_L0 k n) d) (fun _ _ => rfl) (fun k n d => st121_0q k (girolaw19_some_L0 k n) d)
def as121q : List AS := [.c (.dat false (.int .i64)), .c (.int .i64)]
def rs121q : RS := .agg [.own y3q, .mat, .own (.int .i64), .mat]
def pk121q : (List K2q) × (List (List Int)) × (List Int) × (List (List Int)) → RL rs121q.cells := fun x => (x.1, x.2.1, x.2.2.1, x.2.2.2, ())
def up121q : RL rs121q.cells → (List K2q) × (List (List Int)) × (List Int) × (List (List Int)) := fun d => (d.1, d.2.1, d.2.2.1, d.2.2.2.1)
def R121q : Nat × Entry := (44, fun k nm args h => entry as121q rs121q (fun d => girolaw19_some k d.1 d.2.1) pk121q nm args h)
theorem ev121q (k : Nat) (d : AD as121q) : evF E121q A121q k 1000 0 Proofs.Try.f44 (absArgs as121q d).1 (absArgs as121q d).2 (outM rs121q up121q) = girolaw19_some k d.1 d.2.1 := by
  obtain ⟨_, _, _⟩ := d
  kernel_rfl
theorem Ro121q : EntryOK Proofs.Try.prog R121q := fun k _ _ _ _ _ hy =>
  entry_sound (unpack := up121q) (A := A121q) (k := k) (pre := 1000) (na := 0) (E := E121q) Eo121q El121q mixed_orders (f := 44) (fn := Proofs.Try.f44) (by kernel_rfl) (body_loops (loopsOK_of (n := 1) (by kernel_rfl) fun i hi => match i, hi with | 0, _ => ⟨L121_0q, by kernel_rfl, lk121_0q⟩ | i + 1, hi => absurd hi (by omega))) (enters (fn := Proofs.Try.f44) (by kernel_rfl) (by kernel_rfl) (by kernel_rfl)) (fun _ => rfl) (ev121q k) hy
theorem Rl121q : EntryLocal R121q.2 := entry_local (S := fun k (d : AD as121q) => girolaw19_some k d.1 d.2.1)

/-! ### giro/girolaw19.rowed -/
noncomputable def E122q : Env := ⟨Proofs.Try.prog, fun _ => false, sumsOf [R115q]⟩
def I122_0q : Spec := ⟨[(0, .c (.dat false y7q)), (3, .c (.dat true y7q)), (4, .c (.int .i64))], [], []⟩
def X0_122_0q : Spec := ⟨[(3, .c (.dat true y7q))], [], []⟩
def O122_0q : List (Ex × Spec) := [(.exit 0, X0_122_0q)]
abbrev Z122_0q : Type := List K1q
def c122_0q (f : List K1q → List K1q → Int → Option Z122_0q) (d : I122_0q.den) : Option Z122_0q := f d.1.1.1 d.1.2.1.1 d.1.2.2.1.1
def T122_0q : OutD O122_0q → Z122_0q := fun d => d.1.1.1
def e122_0q (base : Nat) (x : Z122_0q) (R : Type) (K : Ex → St → Option R) : Option R := K (.exit 0) (stOf base X0_122_0q (((x, ()), ()), ()))
def L122_0q : LoopSum := ⟨I122_0q, O122_0q, Z122_0q, fun k d => c122_0q (girolaw19_rowed_L0 k k) d, e122_0q⟩
def A122q : Notes := ⟨[], [(3, L122_0q)]⟩
theorem Eo122q : EnvOK E122q := ⟨eqOK_none, sumsOf_ok (List.forall_mem_cons.2 ⟨Ro115q, List.forall_mem_nil _⟩)⟩
theorem El122q : SumsLocal E122q.sums := sumsOf_local (List.forall_mem_cons.2 ⟨Rl115q, List.forall_mem_nil _⟩)
theorem st122_0q (k : Nat) (rec : List K1q → List K1q → Int → Option Z122_0q) (d : I122_0q.den) : c122_0q (girolaw19_rowed_L0b k rec) d = evC E122q A122q k 1000 0 74 (loopAt (bodyOf Proofs.Try.f45) 0) (stOf (1000 + loopBase) I122_0q d) (roundK 1000 I122_0q O122_0q T122_0q (c122_0q rec)) := by
  obtain ⟨⟨⟨_, _⟩, ⟨_, _⟩, ⟨_, _⟩, _⟩, _⟩ := d
  kernel_rfl
theorem lk122_0q : LoopOK Proofs.Try.prog 1000 0 74 (loopAt (bodyOf Proofs.Try.f45) 0) L122_0q :=
  loop_sound (A := A122q) (inS := I122_0q) (outs := O122_0q) Eo122q El122q mixed_orders (loopsOK_none (by kernel_rfl)) T122_0q e122_0q (fun _ _ _ => rfl) (fun k n d => c122_0q (girolaw19_rowed_L0 k n) d) (fun _ _ => rfl) (fun k n d => st122_0q k (girolaw19_rowed_L0 k n) d)
def as122q : List AS := [.c (.dat false y7q)]
def rs122q : RS := .c (.fro y7q)
def pk122q : List K1q → RL rs122q.cells := fun x => (x, ())
def up122q : RL rs122q.cells → List K1q := fun d => d.1
def R122q : Nat × Entry := (45, fun k nm args h => entry as122q rs122q (fun d => girolaw19_rowed k d.1) pk122q nm args h)
theorem ev122q (k : Nat) (d : AD as122q) : evF E122q A122q k 1000 0 Proofs.Try.f45 (absArgs as122q d).1 (absArgs as122q d).2 (outM rs122q up122q) = girolaw19_rowed k d.1 := by
  obtain ⟨_, _⟩ := d
  kernel_rfl
theorem Ro122q : EntryOK Proofs.Try.prog R122q := fun k _ _ _ _ _ hy =>
  entry_sound (unpack := up122q) (A := A122q) (k := k) (pre := 1000) (na := 0) (E := E122q) Eo122q El122q mixed_orders (f := 45) (fn := Proofs.Try.f45) (by kernel_rfl) (body_loops (loopsOK_of (n := 1) (by kernel_rfl) fun i hi => match i, hi with | 0, _ => ⟨L122_0q, by kernel_rfl, lk122_0q⟩ | i + 1, hi => absurd hi (by omega))) (enters (fn := Proofs.Try.f45) (by kernel_rfl) (by kernel_rfl) (by kernel_rfl)) (fun _ => rfl) (ev122q k) hy
theorem Rl122q : EntryLocal R122q.2 := entry_local (S := fun k (d : AD as122q) => girolaw19_rowed k d.1)

/-! ### giro/pair.next -/
noncomputable def E123q : Env := ⟨Proofs.Try.prog, fun _ => false, sumsOf [R62q, R78q, R82q]⟩
def I123_0q : Spec := ⟨[(3, .c (.lit (.ptr 1001000 0))), (6, .c (.lit (.ptr 1001001 0))), (8, .c (.lit (.osl 1001002 none))), (10, .c (.lit (.ptr 1001003 0))), (18, .c (.lit (.osl 1001002 none))), (19, .c (.int .i64)), (20, .c (.int .i64)), (24, .c (.lit (.osl 1001002 none))), (25, .c (.int .i64)), (26, .c (.int .i64))], [.box true [.dat true y3q, .dat true (.sl (.int .i64)), .dat true (.int .i64), .dat true (.sl (.int .i64))], .box true [.int .i64, .int .i64, .int .i64, .int .i64, .int .i64, .int .i64, .int .i64, .int .i64, .int .i64, .int .i64, .int .i64, .int .i64, .int .i64, .int .i64, .lit .nsl, .lit .nsl, .lit .nsl, .lit .nsl], .arr true y7q, .box true [.int .i64, .int .i64, .int .i64, .int .i64, .int .i64, .int .i64, .int .i64]], []⟩
def X0_123_0q : Spec := ⟨[(3, .c (.lit (.ptr 1001000 0))), (6, .c (.lit (.ptr 1001001 0))), (8, .c (.lit (.osl 1001002 none))), (18, .c (.lit (.osl 1001002 none))), (19, .c (.int .i64)), (20, .c (.int .i64))], [.box true [.dat true y3q, .dat true (.sl (.int .i64)), .dat true (.int .i64), .dat true (.sl (.int .i64))], .box true [.int .i64, .int .i64, .int .i64, .int .i64, .int .i64, .int .i64, .int .i64, .int .i64, .int .i64, .int .i64, .int .i64, .int .i64, .int .i64, .int .i64, .lit .nsl, .lit .nsl, .lit .nsl, .lit .nsl], .arr true y7q], []⟩
def X1_123_0q : Spec := ⟨[(6, .c (.lit (.ptr 1001000 0))), (7, .c (.bool))], [.box true [.int .i64, .int .i64, .int .i64, .int .i64, .int .i64, .int .i64, .int .i64, .int .i64, .int .i64, .int .i64, .int .i64, .int .i64, .int .i64, .int .i64, .dat true y3q, .dat true (.sl (.int .i64)), .dat true (.int .i64), .dat true (.sl (.int .i64))]], []⟩
def O123_0q : List (Ex × Spec) := [(.exit 2, X0_123_0q), (.ret, X1_123_0q)]
abbrev Z123_0q : Type := (Int × Int × (List K2q) × (List (List Int)) × (List Int) × (List (List Int)) × Int × Int × Int × Int × Int × Int × Int × Int × Int × Int × Int × Int × Int × Int × (List K1q)) ⊕ (Bool × Int × Int × Int × Int × Int × Int × Int × Int × Int × Int × Int × Int × Int × Int × (List K2q) × (List (List Int)) × (List Int) × (List (List Int)))
def c123_0q (f : Int → Int → Int → Int → List K2q → List (List Int) → List Int → List (List Int) → Int → Int → Int → Int → Int → Int → Int → Int → Int → Int → Int → Int → Int → Int → List K1q → Int → Int → Int → Int → Int → Int → Int → Option Z123_0q) (d : I123_0q.den) : Option Z123_0q := f d.1.2.2.2.2.2.1.1 d.1.2.2.2.2.2.2.1.1 d.1.2.2.2.2.2.2.2.2.1.1 d.1.2.2.2.2.2.2.2.2.2.1.1 d.2.1.1 d.2.1.2.1 d.2.1.2.2.1 d.2.1.2.2.2.1 d.2.2.1.1 d.2.2.1.2.1 d.2.2.1.2.2.1 d.2.2.1.2.2.2.1 d.2.2.1.2.2.2.2.1 d.2.2.1.2.2.2.2.2.1 d.2.2.1.2.2.2.2.2.2.1 d.2.2.1.2.2.2.2.2.2.2.1 d.2.2.1.2.2.2.2.2.2.2.2.1 d.2.2.1.2.2.2.2.2.2.2.2.2.1 d.2.2.1.2.2.2.2.2.2.2.2.2.2.1 d.2.2.1.2.2.2.2.2.2.2.2.2.2.2.1 d.2.2.1.2.2.2.2.2.2.2.2.2.2.2.2.1 d.2.2.1.2.2.2.2.2.2.2.2.2.2.2.2.2.1 d.2.2.2.1 d.2.2.2.2.1.1 d.2.2.2.2.1.2.1 d.2.2.2.2.1.2.2.1 d.2.2.2.2.1.2.2.2.1 d.2.2.2.2.1.2.2.2.2.1 d.2.2.2.2.1.2.2.2.2.2.1 d.2.2.2.2.1.2.2.2.2.2.2.1
def T123_0q : OutD O123_0q → Z123_0q
 | .inl d => .inl (d.1.2.2.2.2.1.1, d.1.2.2.2.2.2.1.1, d.2.1.1, d.2.1.2.1, d.2.1.2.2.1, d.2.1.2.2.2.1, d.2.2.1.1, d.2.2.1.2.1, d.2.2.1.2.2.1, d.2.2.1.2.2.2.1, d.2.2.1.2.2.2.2.1, d.2.2.1.2.2.2.2.2.1, d.2.2.1.2.2.2.2.2.2.1, d.2.2.1.2.2.2.2.2.2.2.1, d.2.2.1.2.2.2.2.2.2.2.2.1, d.2.2.1.2.2.2.2.2.2.2.2.2.1, d.2.2.1.2.2.2.2.2.2.2.2.2.2.1, d.2.2.1.2.2.2.2.2.2.2.2.2.2.2.1, d.2.2.1.2.2.2.2.2.2.2.2.2.2.2.2.1, d.2.2.1.2.2.2.2.2.2.2.2.2.2.2.2.2.1, d.2.2.2.1)
 | .inr d => .inr (d.1.2.1.1, d.2.1.1, d.2.1.2.1, d.2.1.2.2.1, d.2.1.2.2.2.1, d.2.1.2.2.2.2.1, d.2.1.2.2.2.2.2.1, d.2.1.2.2.2.2.2.2.1, d.2.1.2.2.2.2.2.2.2.1, d.2.1.2.2.2.2.2.2.2.2.1, d.2.1.2.2.2.2.2.2.2.2.2.1, d.2.1.2.2.2.2.2.2.2.2.2.2.1, d.2.1.2.2.2.2.2.2.2.2.2.2.2.1, d.2.1.2.2.2.2.2.2.2.2.2.2.2.2.1, d.2.1.2.2.2.2.2.2.2.2.2.2.2.2.2.1, d.2.1.2.2.2.2.2.2.2.2.2.2.2.2.2.2.1, d.2.1.2.2.2.2.2.2.2.2.2.2.2.2.2.2.2.1, d.2.1.2.2.2.2.2.2.2.2.2.2.2.2.2.2.2.2.1, d.2.1.2.2.2.2.2.2.2.2.2.2.2.2.2.2.2.2.2.1)
def e123_0q (base : Nat) (x : Z123_0q) (R : Type) (K : Ex → St → Option R) : Option R := match x with
 | .inl x => K (.exit 2) (stOf base X0_123_0q (((), (), (), (), (x.1, ()), (x.2.1, ()), ()), ((x.2.2.1, x.2.2.2.1, x.2.2.2.2.1, x.2.2.2.2.2.1, ()), (x.2.2.2.2.2.2.1, x.2.2.2.2.2.2.2.1, x.2.2.2.2.2.2.2.2.1, x.2.2.2.2.2.2.2.2.2.1, x.2.2.2.2.2.2.2.2.2.2.1, x.2.2.2.2.2.2.2.2.2.2.2.1, x.2.2.2.2.2.2.2.2.2.2.2.2.1, x.2.2.2.2.2.2.2.2.2.2.2.2.2.1, x.2.2.2.2.2.2.2.2.2.2.2.2.2.2.1, x.2.2.2.2.2.2.2.2.2.2.2.2.2.2.2.1, x.2.2.2.2.2.2.2.2.2.2.2.2.2.2.2.2.1, x.2.2.2.2.2.2.2.2.2.2.2.2.2.2.2.2.2.1, x.2.2.2.2.2.2.2.2.2.2.2.2.2.2.2.2.2.2.1, x.2.2.2.2.2.2.2.2.2.2.2.2.2.2.2.2.2.2.2.1, ()), x.2.2.2.2.2.2.2.2.2.2.2.2.2.2.2.2.2.2.2.2, ())))
 | .inr x => K .ret (stOf base X1_123_0q (((), (x.1, ()), ()), ((x.2.1, x.2.2.1, x.2.2.2.1, x.2.2.2.2.1, x.2.2.2.2.2.1, x.2.2.2.2.2.2.1, x.2.2.2.2.2.2.2.1, x.2.2.2.2.2.2.2.2.1, x.2.2.2.2.2.2.2.2.2.1, x.2.2.2.2.2.2.2.2.2.2.1, x.2.2.2.2.2.2.2.2.2.2.2.1, x.2.2.2.2.2.2.2.2.2.2.2.2.1, x.2.2.2.2.2.2.2.2.2.2.2.2.2.1, x.2.2.2.2.2.2.2.2.2.2.2.2.2.2.1, x.2.2.2.2.2.2.2.2.2.2.2.2.2.2.2.1, x.2.2.2.2.2.2.2.2.2.2.2.2.2.2.2.2.1, x.2.2.2.2.2.2.2.2.2.2.2.2.2.2.2.2.2.1, x.2.2.2.2.2.2.2.2.2.2.2.2.2.2.2.2.2.2, ()), ())))
def L123_0q : LoopSum := ⟨I123_0q, O123_0q, Z123_0q, fun k d => c123_0q (pair_next_L1 k k) d, e123_0q⟩
def I123_1q : Spec := ⟨[(3, .c (.lit (.ptr 1001000 0))), (6, .c (.lit (.ptr 1001001 0))), (8, .c (.lit (.osl 1001002 none))), (18, .c (.lit (.osl 1001002 none))), (19, .c (.int .i64)), (20, .c (.int .i64))], [.box true [.dat true y3q, .dat true (.sl (.int .i64)), .dat true (.int .i64), .dat true (.sl (.int .i64))], .box true [.int .i64, .int .i64, .int .i64, .int .i64, .int .i64, .int .i64, .int .i64, .int .i64, .int .i64, .int .i64, .int .i64, .int .i64, .int .i64, .int .i64, .lit .nsl, .lit .nsl, .lit .nsl, .lit .nsl], .arr true y7q], []⟩
def X0_123_1q : Spec := ⟨[(6, .c (.lit (.ptr 1001000 0)))], [.box true [.int .i64, .int .i64, .int .i64, .int .i64, .int .i64, .int .i64, .int .i64, .int .i64, .int .i64, .int .i64, .int .i64, .int .i64, .int .i64, .int .i64, .lit .nsl, .lit .nsl, .lit .nsl, .lit .nsl]], []⟩
def X1_123_1q : Spec := ⟨[(6, .c (.lit (.ptr 1001000 0))), (7, .c (.bool))], [.box true [.int .i64, .int .i64, .int .i64, .int .i64, .int .i64, .int .i64, .int .i64, .int .i64, .int .i64, .int .i64, .int .i64, .int .i64, .int .i64, .int .i64, .dat true y3q, .dat true (.sl (.int .i64)), .dat true (.int .i64), .dat true (.sl (.int .i64))]], []⟩
def O123_1q : List (Ex × Spec) := [(.exit 0, X0_123_1q), (.ret, X1_123_1q)]
abbrev Z123_1q : Type := (Int × Int × Int × Int × Int × Int × Int × Int × Int × Int × Int × Int × Int × Int) ⊕ (Bool × Int × Int × Int × Int × Int × Int × Int × Int × Int × Int × Int × Int × Int × Int × (List K2q) × (List (List Int)) × (List Int) × (List (List Int)))
def c123_1q (f : Int → Int → List K2q → List (List Int) → List Int → List (List Int) → Int → Int → Int → Int → Int → Int → Int → Int → Int → Int → Int → Int → Int → Int → List K1q → Option Z123_1q) (d : I123_1q.den) : Option Z123_1q := f d.1.2.2.2.2.1.1 d.1.2.2.2.2.2.1.1 d.2.1.1 d.2.1.2.1 d.2.1.2.2.1 d.2.1.2.2.2.1 d.2.2.1.1 d.2.2.1.2.1 d.2.2.1.2.2.1 d.2.2.1.2.2.2.1 d.2.2.1.2.2.2.2.1 d.2.2.1.2.2.2.2.2.1 d.2.2.1.2.2.2.2.2.2.1 d.2.2.1.2.2.2.2.2.2.2.1 d.2.2.1.2.2.2.2.2.2.2.2.1 d.2.2.1.2.2.2.2.2.2.2.2.2.1 d.2.2.1.2.2.2.2.2.2.2.2.2.2.1 d.2.2.1.2.2.2.2.2.2.2.2.2.2.2.1 d.2.2.1.2.2.2.2.2.2.2.2.2.2.2.2.1 d.2.2.1.2.2.2.2.2.2.2.2.2.2.2.2.2.1 d.2.2.2.1
def T123_1q : OutD O123_1q → Z123_1q
 | .inl d => .inl (d.2.1.1, d.2.1.2.1, d.2.1.2.2.1, d.2.1.2.2.2.1, d.2.1.2.2.2.2.1, d.2.1.2.2.2.2.2.1, d.2.1.2.2.2.2.2.2.1, d.2.1.2.2.2.2.2.2.2.1, d.2.1.2.2.2.2.2.2.2.2.1, d.2.1.2.2.2.2.2.2.2.2.2.1, d.2.1.2.2.2.2.2.2.2.2.2.2.1, d.2.1.2.2.2.2.2.2.2.2.2.2.2.1, d.2.1.2.2.2.2.2.2.2.2.2.2.2.2.1, d.2.1.2.2.2.2.2.2.2.2.2.2.2.2.2.1)
 | .inr d => .inr (d.1.2.1.1, d.2.1.1, d.2.1.2.1, d.2.1.2.2.1, d.2.1.2.2.2.1, d.2.1.2.2.2.2.1, d.2.1.2.2.2.2.2.1, d.2.1.2.2.2.2.2.2.1, d.2.1.2.2.2.2.2.2.2.1, d.2.1.2.2.2.2.2.2.2.2.1, d.2.1.2.2.2.2.2.2.2.2.2.1, d.2.1.2.2.2.2.2.2.2.2.2.2.1, d.2.1.2.2.2.2.2.2.2.2.2.2.2.1, d.2.1.2.2.2.2.2.2.2.2.2.2.2.2.1, d.2.1.2.2.2.2.2.2.2.2.2.2.2.2.2.1, d.2.1.2.2.2.2.2.2.2.2.2.2.2.2.2.2.1, d.2.1.2.2.2.2.2.2.2.2.2.2.2.2.2.2.2.1, d.2.1.2.2.2.2.2.2.2.2.2.2.2.2.2.2.2.2.1, d.2.1.2.2.2.2.2.2.2.2.2.2.2.2.2.2.2.2.2.1)
def e123_1q (base : Nat) (x : Z123_1q) (R : Type) (K : Ex → St → Option R) : Option R := match x with
 | .inl x => K (.exit 0) (stOf base X0_123_1q (((), ()), ((x.1, x.2.1, x.2.2.1, x.2.2.2.1, x.2.2.2.2.1, x.2.2.2.2.2.1, x.2.2.2.2.2.2.1, x.2.2.2.2.2.2.2.1, x.2.2.2.2.2.2.2.2.1, x.2.2.2.2.2.2.2.2.2.1, x.2.2.2.2.2.2.2.2.2.2.1, x.2.2.2.2.2.2.2.2.2.2.2.1, x.2.2.2.2.2.2.2.2.2.2.2.2.1, x.2.2.2.2.2.2.2.2.2.2.2.2.2, ()), ())))
 | .inr x => K .ret (stOf base X1_123_1q (((), (x.1, ()), ()), ((x.2.1, x.2.2.1, x.2.2.2.1, x.2.2.2.2.1, x.2.2.2.2.2.1, x.2.2.2.2.2.2.1, x.2.2.2.2.2.2.2.1, x.2.2.2.2.2.2.2.2.1, x.2.2.2.2.2.2.2.2.2.1, x.2.2.2.2.2.2.2.2.2.2.1, x.2.2.2.2.2.2.2.2.2.2.2.1, x.2.2.2.2.2.2.2.2.2.2.2.2.1, x.2.2.2.2.2.2.2.2.2.2.2.2.2.1, x.2.2.2.2.2.2.2.2.2.2.2.2.2.2.1, x.2.2.2.2.2.2.2.2.2.2.2.2.2.2.2.1, x.2.2.2.2.2.2.2.2.2.2.2.2.2.2.2.2.1, x.2.2.2.2.2.2.2.2.2.2.2.2.2.2.2.2.2.1, x.2.2.2.2.2.2.2.2.2.2.2.2.2.2.2.2.2.2, ()), ())))
def L123_1q : LoopSum := ⟨I123_1q, O123_1q, Z123_1q, fun k d => c123_1q (pair_next_L0 k k) d, e123_1q⟩
def A123q : Notes := ⟨[], [(6, L123_0q), (3, L123_1q)]⟩
theorem Eo123q : EnvOK E123q := ⟨eqOK_none, sumsOf_ok (List.forall_mem_cons.2 ⟨Ro62q, List.forall_mem_cons.2 ⟨Ro78q, List.forall_mem_cons.2 ⟨Ro82q, List.forall_mem_nil _⟩⟩⟩)⟩
theorem El123q : SumsLocal E123q.sums := sumsOf_local (List.forall_mem_cons.2 ⟨Rl62q, List.forall_mem_cons.2 ⟨Rl78q, List.forall_mem_cons.2 ⟨Rl82q, List.forall_mem_nil _⟩⟩⟩)
theorem st123_0q (k : Nat) (rec : Int → Int → Int → Int → List K2q → List (List Int) → List Int → List (List Int) → Int → Int → Int → Int → Int → Int → Int → Int → Int → Int → Int → Int → Int → Int → List K1q → Int → Int → Int → Int → Int → Int → Int → Option Z123_0q) (d : I123_0q.den) : c123_0q (pair_next_L1b k rec) d = evC E123q A123q k 1000 0 74 (loopAt (loopAt (bodyOf Proofs.Try.f82) 0) 0) (stOf (1000 + loopBase) I123_0q d) (roundK 1000 I123_0q O123_0q T123_0q (c123_0q rec)) := by
  obtain ⟨⟨_, _, _, _, _, ⟨_, _⟩, ⟨_, _⟩, _, ⟨_, _⟩, ⟨_, _⟩, _⟩, ⟨⟨_, _, _, _, _⟩, ⟨_, _, _, _, _, _, _, _, _, _, _, _, _, _, _⟩, _, ⟨_, _, _, _, _, _, _, _⟩, _⟩⟩ := d
  kernel_rfl
theorem lk123_0q : LoopOK Proofs.Try.prog 1000 0 74 (loopAt (loopAt (bodyOf Proofs.Try.f82) 0) 0) L123_0q :=
  loop_sound (A := A123q) (inS := I123_0q) (outs := O123_0q) Eo123q El123q mixed_orders (loopsOK_none (by kernel_rfl)) T123_0q e123_0q (by intro o R K; rcases o with o | o <;> rfl) (fun k n d => c123_0q (pair_next_L1 k n) d) (fun _ _ => rfl) (fun k n d => st123_0q k (pair_next_L1 k n) d)
theorem st123_1q (k : Nat) (rec : Int → Int → List K2q → List (List Int) → List Int → List (List Int) → Int → Int → Int → Int → Int → Int → Int → Int → Int → Int → Int → Int → Int → Int → List K1q → Option Z123_1q) (d : I123_1q.den) : c123_1q (pair_next_L0b k rec) d = evC E123q A123q k 1000 0 74 (loopAt (bodyOf Proofs.Try.f82) 0) (stOf (1000 + loopBase) I123_1q d) (roundK 1000 I123_1q O123_1q T123_1q (c123_1q rec)) := by
  obtain ⟨⟨_, _, _, _, ⟨_, _⟩, ⟨_, _⟩, _⟩, ⟨⟨_, _, _, _, _⟩, ⟨_, _, _, _, _, _, _, _, _, _, _, _, _, _, _⟩, _, _⟩⟩ := d
  kernel_rfl
theorem lk123_1q : LoopOK Proofs.Try.prog 1000 0 74 (loopAt (bodyOf Proofs.Try.f82) 0) L123_1q :=
  loop_sound (A := A123q) (inS := I123_1q) (outs := O123_1q) Eo123q El123q mixed_orders (loopsOK_of (n := 1) (by kernel_rfl) fun i hi => match i, hi with | 0, _ => ⟨L123_0q, by kernel_rfl, lk123_0q⟩ | i + 1, hi => absurd hi (by omega)) T123_1q e123_1q (by intro o R K; rcases o with o | o <;> rfl) (fun k n d => c123_1q (pair_next_L0 k n) d) (fun _ _ => rfl) (fun k n d => st123_1q k (pair_next_L0 k n) d)
def as123q : List AS := [.agg [.dat true y3q, .dat true (.sl (.int .i64)), .dat true (.int .i64), .dat true (.sl (.int .i64))], .c (.dat true y7q), .c (.int .i64)]
def rs123q : RS := .tup [(true, [.int .i64, .int .i64, .int .i64, .int .i64, .int .i64, .int .i64, .int .i64, .int .i64, .int .i64, .int .i64, .int .i64, .int .i64, .int .i64, .int .i64, .fro y3q, .fro (.sl (.int .i64)), .fro (.int .i64), .fro (.sl (.int .i64))]), (false, [.bool])]
def pk123q : Int × Int × Int × Int × Int × Int × Int × Int × Int × Int × Int × Int × Int × Int × (List K2q) × (List (List Int)) × (List Int) × (List (List Int)) × Bool → RL rs123q.cells := fun x => (x.1, x.2.1, x.2.2.1, x.2.2.2.1, x.2.2.2.2.1, x.2.2.2.2.2.1, x.2.2.2.2.2.2.1, x.2.2.2.2.2.2.2.1, x.2.2.2.2.2.2.2.2.1, x.2.2.2.2.2.2.2.2.2.1, x.2.2.2.2.2.2.2.2.2.2.1, x.2.2.2.2.2.2.2.2.2.2.2.1, x.2.2.2.2.2.2.2.2.2.2.2.2.1, x.2.2.2.2.2.2.2.2.2.2.2.2.2.1, x.2.2.2.2.2.2.2.2.2.2.2.2.2.2.1, x.2.2.2.2.2.2.2.2.2.2.2.2.2.2.2.1, x.2.2.2.2.2.2.2.2.2.2.2.2.2.2.2.2.1, x.2.2.2.2.2.2.2.2.2.2.2.2.2.2.2.2.2.1, x.2.2.2.2.2.2.2.2.2.2.2.2.2.2.2.2.2.2, ())
def up123q : RL rs123q.cells → Int × Int × Int × Int × Int × Int × Int × Int × Int × Int × Int × Int × Int × Int × (List K2q) × (List (List Int)) × (List Int) × (List (List Int)) × Bool := fun d => (d.1, d.2.1, d.2.2.1, d.2.2.2.1, d.2.2.2.2.1, d.2.2.2.2.2.1, d.2.2.2.2.2.2.1, d.2.2.2.2.2.2.2.1, d.2.2.2.2.2.2.2.2.1, d.2.2.2.2.2.2.2.2.2.1, d.2.2.2.2.2.2.2.2.2.2.1, d.2.2.2.2.2.2.2.2.2.2.2.1, d.2.2.2.2.2.2.2.2.2.2.2.2.1, d.2.2.2.2.2.2.2.2.2.2.2.2.2.1, d.2.2.2.2.2.2.2.2.2.2.2.2.2.2.1, d.2.2.2.2.2.2.2.2.2.2.2.2.2.2.2.1, d.2.2.2.2.2.2.2.2.2.2.2.2.2.2.2.2.1, d.2.2.2.2.2.2.2.2.2.2.2.2.2.2.2.2.2.1, d.2.2.2.2.2.2.2.2.2.2.2.2.2.2.2.2.2.2.1)
def R123q : Nat × Entry := (82, fun k nm args h => entry as123q rs123q (fun d => pair_next k d.1 d.2.1 d.2.2.1 d.2.2.2.1 d.2.2.2.2.1 d.2.2.2.2.2.1) pk123q nm args h)
theorem ev123q (k : Nat) (d : AD as123q) : evF E123q A123q k 1000 0 Proofs.Try.f82 (absArgs as123q d).1 (absArgs as123q d).2 (outM rs123q up123q) = pair_next k d.1 d.2.1 d.2.2.1 d.2.2.2.1 d.2.2.2.2.1 d.2.2.2.2.2.1 := by
  obtain ⟨_, _, _, _, _, _, _⟩ := d
  kernel_rfl
theorem Ro123q : EntryOK Proofs.Try.prog R123q := fun k _ _ _ _ _ hy =>
  entry_sound (unpack := up123q) (A := A123q) (k := k) (pre := 1000) (na := 0) (E := E123q) Eo123q El123q mixed_orders (f := 82) (fn := Proofs.Try.f82) (by kernel_rfl) (body_loops (loopsOK_of (n := 1) (by kernel_rfl) fun i hi => match i, hi with | 0, _ => ⟨L123_1q, by kernel_rfl, lk123_1q⟩ | i + 1, hi => absurd hi (by omega))) (enters (fn := Proofs.Try.f82) (by kernel_rfl) (by kernel_rfl) (by kernel_rfl)) (fun _ => rfl) (ev123q k) hy
theorem Rl123q : EntryLocal R123q.2 := entry_local (S := fun k (d : AD as123q) => pair_next k d.1 d.2.1 d.2.2.1 d.2.2.2.1 d.2.2.2.2.1 d.2.2.2.2.2.1)

/-! ### giro/pair.Run -/
noncomputable def E124q : Env := ⟨Proofs.Try.prog, fun _ => false, sumsOf [R123q, R89q]⟩
def I124_0q : Spec := ⟨[(2, .c (.int .i64)), (6, .c (.lit (.ptr 1001000 0))), (7, .c (.dat true y7q)), (8, .c (.lit (.osl 1001001 none))), (33, .c (.lit (.osl 1001002 none))), (34, .c (.int .i64)), (35, .c (.int .i64))], [.box true [.dat true y3q, .dat true (.sl (.int .i64)), .dat true (.int .i64), .dat true (.sl (.int .i64))], .arr true y7q, .arr true y7q], [(8, none, y7q, false)]⟩
def X0_124_0q : Spec := ⟨[(2, .c (.int .i64)), (6, .c (.lit (.ptr 1001000 0))), (7, .c (.dat true y7q)), (8, .c (.lit (.osl 1001001 none)))], [.box true [.dat true y3q, .dat true (.sl (.int .i64)), .dat true (.int .i64), .dat true (.sl (.int .i64))], .arr true y7q], []⟩
def O124_0q : List (Ex × Spec) := [(.exit 2, X0_124_0q)]
abbrev Z124_0q : Type := Int × (List K1q) × (List K2q) × (List (List Int)) × (List Int) × (List (List Int)) × (List K1q)
def c124_0q (f : Int → List K1q → Int → Int → List K2q → List (List Int) → List Int → List (List Int) → List K1q → List K1q → Option Z124_0q) (d : I124_0q.den) : Option Z124_0q := f d.1.1.1 d.1.2.2.1.1 d.1.2.2.2.2.2.1.1 d.1.2.2.2.2.2.2.1.1 d.2.1.1 d.2.1.2.1 d.2.1.2.2.1 d.2.1.2.2.2.1 d.2.2.1 d.2.2.2.1
def T124_0q : OutD O124_0q → Z124_0q := fun d => (d.1.1.1, d.1.2.2.1.1, d.2.1.1, d.2.1.2.1, d.2.1.2.2.1, d.2.1.2.2.2.1, d.2.2.1)
def e124_0q (base : Nat) (x : Z124_0q) (R : Type) (K : Ex → St → Option R) : Option R := K (.exit 2) (stOf base X0_124_0q (((x.1, ()), (), (x.2.1, ()), (), ()), ((x.2.2.1, x.2.2.2.1, x.2.2.2.2.1, x.2.2.2.2.2.1, ()), x.2.2.2.2.2.2, ())))
def L124_0q : LoopSum := ⟨I124_0q, O124_0q, Z124_0q, fun k d => c124_0q (pair_Run_L1 k k) d, e124_0q⟩
def I124_1q : Spec := ⟨[(2, .c (.int .i64)), (6, .c (.lit (.ptr 1001000 0))), (7, .c (.dat true y7q)), (8, .c (.lit (.osl 1001001 none)))], [.box true [.dat true y3q, .dat true (.sl (.int .i64)), .dat true (.int .i64), .dat true (.sl (.int .i64))], .arr true y7q], [(8, none, y7q, false)]⟩
def X0_124_1q : Spec := ⟨[(6, .c (.lit (.ptr 1001000 0))), (7, .c (.dat true y7q)), (8, .c (.lit (.osl 1001001 none)))], [.box true [.dat true y3q, .dat true (.sl (.int .i64)), .dat true (.int .i64), .dat true (.sl (.int .i64))], .arr true y7q], []⟩
def O124_1q : List (Ex × Spec) := [(.ret, X0_124_1q)]
abbrev Z124_1q : Type := (List K1q) × (List K2q) × (List (List Int)) × (List Int) × (List (List Int)) × (List K1q)
def c124_1q (f : Int → List K1q → List K2q → List (List Int) → List Int → List (List Int) → List K1q → Option Z124_1q) (d : I124_1q.den) : Option Z124_1q := f d.1.1.1 d.1.2.2.1.1 d.2.1.1 d.2.1.2.1 d.2.1.2.2.1 d.2.1.2.2.2.1 d.2.2.1
def T124_1q : OutD O124_1q → Z124_1q := fun d => (d.1.2.1.1, d.2.1.1, d.2.1.2.1, d.2.1.2.2.1, d.2.1.2.2.2.1, d.2.2.1)
def e124_1q (base : Nat) (x : Z124_1q) (R : Type) (K : Ex → St → Option R) : Option R := K .ret (stOf base X0_124_1q (((), (x.1, ()), (), ()), ((x.2.1, x.2.2.1, x.2.2.2.1, x.2.2.2.2.1, ()), x.2.2.2.2.2, ())))
def L124_1q : LoopSum := ⟨I124_1q, O124_1q, Z124_1q, fun k d => c124_1q (pair_Run_L0 k k) d, e124_1q⟩
def A124q : Notes := ⟨[], [(7, L124_0q), (2, L124_1q)]⟩
theorem Eo124q : EnvOK E124q := ⟨eqOK_none, sumsOf_ok (List.forall_mem_cons.2 ⟨Ro123q, List.forall_mem_cons.2 ⟨Ro89q, List.forall_mem_nil _⟩⟩)⟩
theorem El124q : SumsLocal E124q.sums := sumsOf_local (List.forall_mem_cons.2 ⟨Rl123q, List.forall_mem_cons.2 ⟨Rl89q, List.forall_mem_nil _⟩⟩)
theorem st124_0q (k : Nat) (rec : Int → List K1q → Int → Int → List K2q → List (List Int) → List Int → List (List Int) → List K1q → List K1q → Option Z124_0q) (d : I124_0q.den) : c124_0q (pair_Run_L1b k rec) d = evC E124q A124q k 1000 0 52 (loopAt (loopAt (bodyOf Proofs.Try.f46) 0) 0) (stOf (1000 + loopBase) I124_0q d) (roundK 1000 I124_0q O124_0q T124_0q (c124_0q rec)) := by
  obtain ⟨⟨⟨_, _⟩, _, ⟨_, _⟩, _, _, ⟨_, _⟩, ⟨_, _⟩, _⟩, ⟨⟨_, _, _, _, _⟩, _, _, _⟩⟩ := d
  kernel_rfl
theorem lk124_0q : LoopOK Proofs.Try.prog 1000 0 52 (loopAt (loopAt (bodyOf Proofs.Try.f46) 0) 0) L124_0q :=
  loop_sound (A := A124q) (inS := I124_0q) (outs := O124_0q) Eo124q El124q mixed_orders (loopsOK_none (by kernel_rfl)) T124_0q e124_0q (fun _ _ _ => rfl) (fun k n d => c124_0q (pair_Run_L1 k n) d) (fun _ _ => rfl) (fun k n d => st124_0q k (pair_Run_L1 k n) d)
theorem st124_1q (k : Nat) (rec : Int → List K1q → List K2q → List (List Int) → List Int → List (List Int) → List K1q → Option Z124_1q) (d : I124_1q.den) : c124_1q (pair_Run_L0b k rec) d = evC E124q A124q k 1000 0 52 (loopAt (bodyOf Proofs.Try.f46) 0) (stOf (1000 + loopBase) I124_1q d) (roundK 1000 I124_1q O124_1q T124_1q (c124_1q rec)) := by
  obtain ⟨⟨⟨_, _⟩, _, ⟨_, _⟩, _, _⟩, ⟨⟨_, _, _, _, _⟩, _, _⟩⟩ := d
  kernel_rfl
theorem lk124_1q : LoopOK Proofs.Try.prog 1000 0 52 (loopAt (bodyOf Proofs.Try.f46) 0) L124_1q :=
  loop_sound (A := A124q) (inS := I124_1q) (outs := O124_1q) Eo124q El124q mixed_orders (loopsOK_of (n := 1) (by kernel_rfl) fun i hi => match i, hi with | 0, _ => ⟨L124_0q, by kernel_rfl, lk124_0q⟩ | i + 1, hi => absurd hi (by omega)) T124_1q e124_1q (fun _ _ _ => rfl) (fun k n d => c124_1q (pair_Run_L0 k n) d) (fun _ _ => rfl) (fun k n d => st124_1q k (pair_Run_L0 k n) d)
def as124q : List AS := [.agg [.dat true y3q, .dat true (.sl (.int .i64)), .dat true (.int .i64), .dat true (.sl (.int .i64))], .c (.dat true y7q), .c (.int .i64)]
def rs124q : RS := .tup [(true, [.fro y3q, .fro (.sl (.int .i64)), .fro (.int .i64), .fro (.sl (.int .i64))]), (false, [.fro y7q]), (false, [.own y7q])]
def pk124q : (List K2q) × (List (List Int)) × (List Int) × (List (List Int)) × (List K1q) × (List K1q) → RL rs124q.cells := fun x => (x.1, x.2.1, x.2.2.1, x.2.2.2.1, x.2.2.2.2.1, x.2.2.2.2.2, ())
def up124q : RL rs124q.cells → (List K2q) × (List (List Int)) × (List Int) × (List (List Int)) × (List K1q) × (List K1q) := fun d => (d.1, d.2.1, d.2.2.1, d.2.2.2.1, d.2.2.2.2.1, d.2.2.2.2.2.1)
def R124q : Nat × Entry := (46, fun k nm args h => entry as124q rs124q (fun d => pair_Run k d.1 d.2.1 d.2.2.1 d.2.2.2.1 d.2.2.2.2.1 d.2.2.2.2.2.1) pk124q nm args h)
theorem ev124q (k : Nat) (d : AD as124q) : evF E124q A124q k 1000 0 Proofs.Try.f46 (absArgs as124q d).1 (absArgs as124q d).2 (outM rs124q up124q) = pair_Run k d.1 d.2.1 d.2.2.1 d.2.2.2.1 d.2.2.2.2.1 d.2.2.2.2.2.1 := by
  obtain ⟨_, _, _, _, _, _, _⟩ := d
  kernel_rfl
theorem Ro124q : EntryOK Proofs.Try.prog R124q := fun k _ _ _ _ _ hy =>
  entry_sound (unpack := up124q) (A := A124q) (k := k) (pre := 1000) (na := 0) (E := E124q) Eo124q El124q mixed_orders (f := 46) (fn := Proofs.Try.f46) (by kernel_rfl) (body_loops (loopsOK_of (n := 1) (by kernel_rfl) fun i hi => match i, hi with | 0, _ => ⟨L124_1q, by kernel_rfl, lk124_1q⟩ | i + 1, hi => absurd hi (by omega))) (enters (fn := Proofs.Try.f46) (by kernel_rfl) (by kernel_rfl) (by kernel_rfl)) (fun _ => rfl) (ev124q k) hy
theorem Rl124q : EntryLocal R124q.2 := entry_local (S := fun k (d : AD as124q) => pair_Run k d.1 d.2.1 d.2.2.1 d.2.2.2.1 d.2.2.2.2.1 d.2.2.2.2.2.1)

/-! ### giro/giroref19.Next -/
noncomputable def E125q : Env := ⟨Proofs.Try.prog, fun _ => false, sumsOf [R94q, R104q]⟩
def I125_0q : Spec := ⟨[(3, .c (.lit (.ptr 1001000 0))), (6, .c (.lit (.ptr 1001001 0))), (7, .c (.lit (.ptr 1001002 0))), (9, .c (.lit (.osl 1001003 none))), (10, .c (.int .i64)), (11, .c (.int .i64))], [.box true [.dat true y3q, .dat true (.sl (.int .i64)), .dat true (.int .i64), .dat true (.sl (.int .i64))], .box true [.int .i64, .int .i64, .int .i64, .int .i64, .int .i64, .int .i64, .int .i64], .box true [.int .i64, .int .i64, .int .i64, .int .i64, .int .i64, .int .i64, .int .i64], .arr true y7q], []⟩
def X0_125_0q : Spec := ⟨[(3, .c (.lit (.ptr 1001000 0))), (6, .c (.lit (.ptr 1001001 0))), (7, .c (.lit (.ptr 1001002 0))), (9, .c (.lit (.osl 1001003 none))), (10, .c (.int .i64))], [.box true [.dat true y3q, .dat true (.sl (.int .i64)), .dat true (.int .i64), .dat true (.sl (.int .i64))], .box true [.int .i64, .int .i64, .int .i64, .int .i64, .int .i64, .int .i64, .int .i64], .box true [.int .i64, .int .i64, .int .i64, .int .i64, .int .i64, .int .i64, .int .i64], .arr true y7q], []⟩
def X1_125_0q : Spec := ⟨[(6, .c (.lit (.ptr 1001000 0))), (7, .c (.lit (.ptr 1001001 0))), (8, .c (.bool))], [.box true [.int .i64, .int .i64, .int .i64, .int .i64, .int .i64, .int .i64, .int .i64], .box true [.int .i64, .int .i64, .int .i64, .int .i64, .int .i64, .int .i64, .int .i64]], []⟩
def O125_0q : List (Ex × Spec) := [(.exit 2, X0_125_0q), (.ret, X1_125_0q)]
abbrev Z125_0q : Type := (Int × (List K2q) × (List (List Int)) × (List Int) × (List (List Int)) × Int × Int × Int × Int × Int × Int × Int × Int × Int × Int × Int × Int × Int × Int × (List K1q)) ⊕ (Bool × Int × Int × Int × Int × Int × Int × Int × Int × Int × Int × Int × Int × Int × Int)
def c125_0q (f : Int → Int → List K2q → List (List Int) → List Int → List (List Int) → Int → Int → Int → Int → Int → Int → Int → Int → Int → Int → Int → Int → Int → Int → List K1q → Option Z125_0q) (d : I125_0q.den) : Option Z125_0q := f d.1.2.2.2.2.1.1 d.1.2.2.2.2.2.1.1 d.2.1.1 d.2.1.2.1 d.2.1.2.2.1 d.2.1.2.2.2.1 d.2.2.1.1 d.2.2.1.2.1 d.2.2.1.2.2.1 d.2.2.1.2.2.2.1 d.2.2.1.2.2.2.2.1 d.2.2.1.2.2.2.2.2.1 d.2.2.1.2.2.2.2.2.2.1 d.2.2.2.1.1 d.2.2.2.1.2.1 d.2.2.2.1.2.2.1 d.2.2.2.1.2.2.2.1 d.2.2.2.1.2.2.2.2.1 d.2.2.2.1.2.2.2.2.2.1 d.2.2.2.1.2.2.2.2.2.2.1 d.2.2.2.2.1
def T125_0q : OutD O125_0q → Z125_0q
 | .inl d => .inl (d.1.2.2.2.2.1.1, d.2.1.1, d.2.1.2.1, d.2.1.2.2.1, d.2.1.2.2.2.1, d.2.2.1.1, d.2.2.1.2.1, d.2.2.1.2.2.1, d.2.2.1.2.2.2.1, d.2.2.1.2.2.2.2.1, d.2.2.1.2.2.2.2.2.1, d.2.2.1.2.2.2.2.2.2.1, d.2.2.2.1.1, d.2.2.2.1.2.1, d.2.2.2.1.2.2.1, d.2.2.2.1.2.2.2.1, d.2.2.2.1.2.2.2.2.1, d.2.2.2.1.2.2.2.2.2.1, d.2.2.2.1.2.2.2.2.2.2.1, d.2.2.2.2.1)
 | .inr d => .inr (d.1.2.2.1.1, d.2.1.1, d.2.1.2.1, d.2.1.2.2.1, d.2.1.2.2.2.1, d.2.1.2.2.2.2.1, d.2.1.2.2.2.2.2.1, d.2.1.2.2.2.2.2.2.1, d.2.2.1.1, d.2.2.1.2.1, d.2.2.1.2.2.1, d.2.2.1.2.2.2.1, d.2.2.1.2.2.2.2.1, d.2.2.1.2.2.2.2.2.1, d.2.2.1.2.2.2.2.2.2.1)
def e125_0q (base : Nat) (x : Z125_0q) (R : Type) (K : Ex → St → Option R) : Option R := match x with
 | .inl x => K (.exit 2) (stOf base X0_125_0q (((), (), (), (), (x.1, ()), ()), ((x.2.1, x.2.2.1, x.2.2.2.1, x.2.2.2.2.1, ()), (x.2.2.2.2.2.1, x.2.2.2.2.2.2.1, x.2.2.2.2.2.2.2.1, x.2.2.2.2.2.2.2.2.1, x.2.2.2.2.2.2.2.2.2.1, x.2.2.2.2.2.2.2.2.2.2.1, x.2.2.2.2.2.2.2.2.2.2.2.1, ()), (x.2.2.2.2.2.2.2.2.2.2.2.2.1, x.2.2.2.2.2.2.2.2.2.2.2.2.2.1, x.2.2.2.2.2.2.2.2.2.2.2.2.2.2.1, x.2.2.2.2.2.2.2.2.2.2.2.2.2.2.2.1, x.2.2.2.2.2.2.2.2.2.2.2.2.2.2.2.2.1, x.2.2.2.2.2.2.2.2.2.2.2.2.2.2.2.2.2.1, x.2.2.2.2.2.2.2.2.2.2.2.2.2.2.2.2.2.2.1, ()), x.2.2.2.2.2.2.2.2.2.2.2.2.2.2.2.2.2.2.2, ())))
 | .inr x => K .ret (stOf base X1_125_0q (((), (), (x.1, ()), ()), ((x.2.1, x.2.2.1, x.2.2.2.1, x.2.2.2.2.1, x.2.2.2.2.2.1, x.2.2.2.2.2.2.1, x.2.2.2.2.2.2.2.1, ()), (x.2.2.2.2.2.2.2.2.1, x.2.2.2.2.2.2.2.2.2.1, x.2.2.2.2.2.2.2.2.2.2.1, x.2.2.2.2.2.2.2.2.2.2.2.1, x.2.2.2.2.2.2.2.2.2.2.2.2.1, x.2.2.2.2.2.2.2.2.2.2.2.2.2.1, x.2.2.2.2.2.2.2.2.2.2.2.2.2.2, ()), ())))
def L125_0q : LoopSum := ⟨I125_0q, O125_0q, Z125_0q, fun k d => c125_0q (giroref19_Next_L1 k k) d, e125_0q⟩
def I125_1q : Spec := ⟨[(3, .c (.lit (.ptr 1001000 0))), (6, .c (.lit (.ptr 1001001 0))), (7, .c (.lit (.ptr 1001002 0))), (9, .c (.lit (.osl 1001003 none))), (10, .c (.int .i64))], [.box true [.dat true y3q, .dat true (.sl (.int .i64)), .dat true (.int .i64), .dat true (.sl (.int .i64))], .box true [.int .i64, .int .i64, .int .i64, .int .i64, .int .i64, .int .i64, .int .i64], .box true [.int .i64, .int .i64, .int .i64, .int .i64, .int .i64, .int .i64, .int .i64], .arr true y7q], []⟩
def X0_125_1q : Spec := ⟨[(6, .c (.lit (.ptr 1001000 0))), (7, .c (.lit (.ptr 1001001 0)))], [.box true [.int .i64, .int .i64, .int .i64, .int .i64, .int .i64, .int .i64, .int .i64], .box true [.int .i64, .int .i64, .int .i64, .int .i64, .int .i64, .int .i64, .int .i64]], []⟩
def X1_125_1q : Spec := ⟨[(6, .c (.lit (.ptr 1001000 0))), (7, .c (.lit (.ptr 1001001 0))), (8, .c (.bool))], [.box true [.int .i64, .int .i64, .int .i64, .int .i64, .int .i64, .int .i64, .int .i64], .box true [.int .i64, .int .i64, .int .i64, .int .i64, .int .i64, .int .i64, .int .i64]], []⟩
def O125_1q : List (Ex × Spec) := [(.exit 0, X0_125_1q), (.ret, X1_125_1q)]
abbrev Z125_1q : Type := (Int × Int × Int × Int × Int × Int × Int × Int × Int × Int × Int × Int × Int × Int) ⊕ (Bool × Int × Int × Int × Int × Int × Int × Int × Int × Int × Int × Int × Int × Int × Int)
def c125_1q (f : Int → List K2q → List (List Int) → List Int → List (List Int) → Int → Int → Int → Int → Int → Int → Int → Int → Int → Int → Int → Int → Int → Int → List K1q → Option Z125_1q) (d : I125_1q.den) : Option Z125_1q := f d.1.2.2.2.2.1.1 d.2.1.1 d.2.1.2.1 d.2.1.2.2.1 d.2.1.2.2.2.1 d.2.2.1.1 d.2.2.1.2.1 d.2.2.1.2.2.1 d.2.2.1.2.2.2.1 d.2.2.1.2.2.2.2.1 d.2.2.1.2.2.2.2.2.1 d.2.2.1.2.2.2.2.2.2.1 d.2.2.2.1.1 d.2.2.2.1.2.1 d.2.2.2.1.2.2.1 d.2.2.2.1.2.2.2.1 d.2.2.2.1.2.2.2.2.1 d.2.2.2.1.2.2.2.2.2.1 d.2.2.2.1.2.2.2.2.2.2.1 d.2.2.2.2.1
def T125_1q : OutD O125_1q → Z125_1q
 | .inl d => .inl (d.2.1.1, d.2.1.2.1, d.2.1.2.2.1, d.2.1.2.2.2.1, d.2.1.2.2.2.2.1, d.2.1.2.2.2.2.2.1, d.2.1.2.2.2.2.2.2.1, d.2.2.1.1, d.2.2.1.2.1, d.2.2.1.2.2.1, d.2.2.1.2.2.2.1, d.2.2.1.2.2.2.2.1, d.2.2.1.2.2.2.2.2.1, d.2.2.1.2.2.2.2.2.2.1)
 | .inr d => .inr (d.1.2.2.1.1, d.2.1.1, d.2.1.2.1, d.2.1.2.2.1, d.2.1.2.2.2.1, d.2.1.2.2.2.2.1, d.2.1.2.2.2.2.2.1, d.2.1.2.2.2.2.2.2.1, d.2.2.1.1, d.2.2.1.2.1, d.2.2.1.2.2.1, d.2.2.1.2.2.2.1, d.2.2.1.2.2.2.2.1, d.2.2.1.2.2.2.2.2.1, d.2.2.1.2.2.2.2.2.2.1)
def e125_1q (base : Nat) (x : Z125_1q) (R : Type) (K : Ex → St → Option R) : Option R := match x with
 | .inl x => K (.exit 0) (stOf base X0_125_1q (((), (), ()), ((x.1, x.2.1, x.2.2.1, x.2.2.2.1, x.2.2.2.2.1, x.2.2.2.2.2.1, x.2.2.2.2.2.2.1, ()), (x.2.2.2.2.2.2.2.1, x.2.2.2.2.2.2.2.2.1, x.2.2.2.2.2.2.2.2.2.1, x.2.2.2.2.2.2.2.2.2.2.1, x.2.2.2.2.2.2.2.2.2.2.2.1, x.2.2.2.2.2.2.2.2.2.2.2.2.1, x.2.2.2.2.2.2.2.2.2.2.2.2.2, ()), ())))
 | .inr x => K .ret (stOf base X1_125_1q (((), (), (x.1, ()), ()), ((x.2.1, x.2.2.1, x.2.2.2.1, x.2.2.2.2.1, x.2.2.2.2.2.1, x.2.2.2.2.2.2.1, x.2.2.2.2.2.2.2.1, ()), (x.2.2.2.2.2.2.2.2.1, x.2.2.2.2.2.2.2.2.2.1, x.2.2.2.2.2.2.2.2.2.2.1, x.2.2.2.2.2.2.2.2.2.2.2.1, x.2.2.2.2.2.2.2.2.2.2.2.2.1, x.2.2.2.2.2.2.2.2.2.2.2.2.2.1, x.2.2.2.2.2.2.2.2.2.2.2.2.2.2, ()), ())))
def L125_1q : LoopSum := ⟨I125_1q, O125_1q, Z125_1q, fun k d => c125_1q (giroref19_Next_L0 k k) d, e125_1q⟩
def A125q : Notes := ⟨[], [(6, L125_0q), (3, L125_1q)]⟩
theorem Eo125q : EnvOK E125q := ⟨eqOK_none, sumsOf_ok (List.forall_mem_cons.2 ⟨Ro94q, List.forall_mem_cons.2 ⟨Ro104q, List.forall_mem_nil _⟩⟩)⟩
theorem El125q : SumsLocal E125q.sums := sumsOf_local (List.forall_mem_cons.2 ⟨Rl94q, List.forall_mem_cons.2 ⟨Rl104q, List.forall_mem_nil _⟩⟩)
theorem st125_0q (k : Nat) (rec : Int → Int → List K2q → List (List Int) → List Int → List (List Int) → Int → Int → Int → Int → Int → Int → Int → Int → Int → Int → Int → Int → Int → Int → List K1q → Option Z125_0q) (d : I125_0q.den) : c125_0q (giroref19_Next_L1b k rec) d = evC E125q A125q k 1000 0 71 (loopAt (loopAt (bodyOf Proofs.Try.f47) 0) 0) (stOf (1000 + loopBase) I125_0q d) (roundK 1000 I125_0q O125_0q T125_0q (c125_0q rec)) := by
  obtain ⟨⟨_, _, _, _, ⟨_, _⟩, ⟨_, _⟩, _⟩, ⟨⟨_, _, _, _, _⟩, ⟨_, _, _, _, _, _, _, _⟩, ⟨_, _, _, _, _, _, _, _⟩, _, _⟩⟩ := d
  kernel_rfl
theorem lk125_0q : LoopOK Proofs.Try.prog 1000 0 71 (loopAt (loopAt (bodyOf Proofs.Try.f47) 0) 0) L125_0q :=
  loop_sound (A := A125q) (inS := I125_0q) (outs := O125_0q) Eo125q El125q mixed_orders (loopsOK_none (by kernel_rfl)) T125_0q e125_0q (by intro o R K; rcases o with o | o <;> rfl) (fun k n d => c125_0q (giroref19_Next_L1 k n) d) (fun _ _ => rfl) (fun k n d => st125_0q k (giroref19_Next_L1 k n) d)
theorem st125_1q (k : Nat) (rec : Int → List K2q → List (List Int) → List Int → List (List Int) → Int → Int → Int → Int → Int → Int → Int → Int → Int → Int → Int → Int → Int → Int → List K1q → Option Z125_1q) (d : I125_1q.den) : c125_1q (giroref19_Next_L0b k rec) d = evC E125q A125q k 1000 0 71 (loopAt (bodyOf Proofs.Try.f47) 0) (stOf (1000 + loopBase) I125_1q d) (roundK 1000 I125_1q O125_1q T125_1q (c125_1q rec)) := by
  obtain ⟨⟨_, _, _, _, ⟨_, _⟩, _⟩, ⟨⟨_, _, _, _, _⟩, ⟨_, _, _, _, _, _, _, _⟩, ⟨_, _, _, _, _, _, _, _⟩, _, _⟩⟩ := d
  kernel_rfl
theorem lk125_1q : LoopOK Proofs.Try.prog 1000 0 71 (loopAt (bodyOf Proofs.Try.f47) 0) L125_1q :=
  loop_sound (A := A125q) (inS := I125_1q) (outs := O125_1q) Eo125q El125q mixed_orders (loopsOK_of (n := 1) (by kernel_rfl) fun i hi => match i, hi with | 0, _ => ⟨L125_0q, by kernel_rfl, lk125_0q⟩ | i + 1, hi => absurd hi (by omega)) T125_1q e125_1q (by intro o R K; rcases o with o | o <;> rfl) (fun k n d => c125_1q (giroref19_Next_L0 k n) d) (fun _ _ => rfl) (fun k n d => st125_1q k (giroref19_Next_L0 k n) d)
def as125q : List AS := [.agg [.dat true y3q, .dat true (.sl (.int .i64)), .dat true (.int .i64), .dat true (.sl (.int .i64))], .c (.dat true y7q), .c (.int .i64)]
def rs125q : RS := .tup [(true, [.int .i64, .int .i64, .int .i64, .int .i64, .int .i64, .int .i64, .int .i64]), (true, [.int .i64, .int .i64, .int .i64, .int .i64, .int .i64, .int .i64, .int .i64]), (false, [.bool])]
def pk125q : Int × Int × Int × Int × Int × Int × Int × Int × Int × Int × Int × Int × Int × Int × Bool → RL rs125q.cells := fun x => (x.1, x.2.1, x.2.2.1, x.2.2.2.1, x.2.2.2.2.1, x.2.2.2.2.2.1, x.2.2.2.2.2.2.1, x.2.2.2.2.2.2.2.1, x.2.2.2.2.2.2.2.2.1, x.2.2.2.2.2.2.2.2.2.1, x.2.2.2.2.2.2.2.2.2.2.1, x.2.2.2.2.2.2.2.2.2.2.2.1, x.2.2.2.2.2.2.2.2.2.2.2.2.1, x.2.2.2.2.2.2.2.2.2.2.2.2.2.1, x.2.2.2.2.2.2.2.2.2.2.2.2.2.2, ())
def up125q : RL rs125q.cells → Int × Int × Int × Int × Int × Int × Int × Int × Int × Int × Int × Int × Int × Int × Bool := fun d => (d.1, d.2.1, d.2.2.1, d.2.2.2.1, d.2.2.2.2.1, d.2.2.2.2.2.1, d.2.2.2.2.2.2.1, d.2.2.2.2.2.2.2.1, d.2.2.2.2.2.2.2.2.1, d.2.2.2.2.2.2.2.2.2.1, d.2.2.2.2.2.2.2.2.2.2.1, d.2.2.2.2.2.2.2.2.2.2.2.1, d.2.2.2.2.2.2.2.2.2.2.2.2.1, d.2.2.2.2.2.2.2.2.2.2.2.2.2.1, d.2.2.2.2.2.2.2.2.2.2.2.2.2.2.1)
def R125q : Nat × Entry := (47, fun k nm args h => entry as125q rs125q (fun d => giroref19_Next k d.1 d.2.1 d.2.2.1 d.2.2.2.1 d.2.2.2.2.1 d.2.2.2.2.2.1) pk125q nm args h)
theorem ev125q (k : Nat) (d : AD as125q) : evF E125q A125q k 1000 0 Proofs.Try.f47 (absArgs as125q d).1 (absArgs as125q d).2 (outM rs125q up125q) = giroref19_Next k d.1 d.2.1 d.2.2.1 d.2.2.2.1 d.2.2.2.2.1 d.2.2.2.2.2.1 := by
  obtain ⟨_, _, _, _, _, _, _⟩ := d
  kernel_rfl
theorem Ro125q : EntryOK Proofs.Try.prog R125q := fun k _ _ _ _ _ hy =>
  entry_sound (unpack := up125q) (A := A125q) (k := k) (pre := 1000) (na := 0) (E := E125q) Eo125q El125q mixed_orders (f := 47) (fn := Proofs.Try.f47) (by kernel_rfl) (body_loops (loopsOK_of (n := 1) (by kernel_rfl) fun i hi => match i, hi with | 0, _ => ⟨L125_1q, by kernel_rfl, lk125_1q⟩ | i + 1, hi => absurd hi (by omega))) (enters (fn := Proofs.Try.f47) (by kernel_rfl) (by kernel_rfl) (by kernel_rfl)) (fun _ => rfl) (ev125q k) hy
theorem Rl125q : EntryLocal R125q.2 := entry_local (S := fun k (d : AD as125q) => giroref19_Next k d.1 d.2.1 d.2.2.1 d.2.2.2.1 d.2.2.2.2.1 d.2.2.2.2.2.1)

/-! ### giro/girolaw19.known -/
noncomputable def E126q : Env := ⟨Proofs.Try.prog, fun _ => false, sumsOf [R121q, R124q, R108q]⟩
def A126q : Notes := ⟨[], []⟩
theorem Eo126q : EnvOK E126q := ⟨eqOK_none, sumsOf_ok (List.forall_mem_cons.2 ⟨Ro121q, List.forall_mem_cons.2 ⟨Ro124q, List.forall_mem_cons.2 ⟨Ro108q, List.forall_mem_nil _⟩⟩⟩)⟩
theorem El126q : SumsLocal E126q.sums := sumsOf_local (List.forall_mem_cons.2 ⟨Rl121q, List.forall_mem_cons.2 ⟨Rl124q, List.forall_mem_cons.2 ⟨Rl108q, List.forall_mem_nil _⟩⟩⟩)
def as126q : List AS := []
def rs126q : RS := .c (.bool)
def pk126q : Bool → RL rs126q.cells := fun x => (x, ())
def up126q : RL rs126q.cells → Bool := fun d => d.1
def R126q : Nat × Entry := (48, fun k nm args h => entry as126q rs126q (fun d => girolaw19_known k) pk126q nm args h)
theorem ev126q (k : Nat) (d : AD as126q) : evF E126q A126q k 1000 0 Proofs.Try.f48 (absArgs as126q d).1 (absArgs as126q d).2 (outM rs126q up126q) = girolaw19_known k := by
  kernel_rfl
theorem Ro126q : EntryOK Proofs.Try.prog R126q := fun k _ _ _ _ _ hy =>
  entry_sound (unpack := up126q) (A := A126q) (k := k) (pre := 1000) (na := 0) (E := E126q) Eo126q El126q mixed_orders (f := 48) (fn := Proofs.Try.f48) (by kernel_rfl) (body_loops (loopsOK_none (by kernel_rfl))) (enters (fn := Proofs.Try.f48) (by kernel_rfl) (by kernel_rfl) (by kernel_rfl)) (fun _ => rfl) (ev126q k) hy
theorem Rl126q : EntryLocal R126q.2 := entry_local (S := fun k (d : AD as126q) => girolaw19_known k)

/-! ### giro/girolaw19.PairEnds -/
noncomputable def E_girolaw19_PairEnds : Env := ⟨Proofs.Try.prog, fun _ => false, sumsOf [R121q, R122q, R124q, R100q, R103q, R48q, R125q, R41q, R126q]⟩
def I_girolaw19_PairEnds_L0 : Spec := ⟨[(3, .c (.int .i64)), (11, .c (.lit (.ptr 1001000 0))), (12, .c (.dat true y7q)), (13, .c (.lit (.osl 1001001 none))), (14, .c (.lit (.ptr 1001002 0))), (15, .c (.int .i64))], [.box true [.dat true y3q, .dat true (.sl (.int .i64)), .dat true (.int .i64), .dat true (.sl (.int .i64))], .arr true y7q, .box true [.dat true y3q, .dat true (.sl (.int .i64)), .dat true (.int .i64), .dat true (.sl (.int .i64))]], [(14, some 0, .bool, true), (14, some 1, .bool, true), (14, some 2, .bool, true), (14, some 3, .bool, true)]⟩
def X0_girolaw19_PairEnds_L0 : Spec := ⟨[(3, .c (.int .i64)), (11, .c (.lit (.ptr 1001000 0))), (12, .c (.dat true y7q)), (14, .c (.lit (.ptr 1001001 0)))], [.box true [.dat true y3q, .dat true (.sl (.int .i64)), .dat true (.int .i64), .dat true (.sl (.int .i64))], .box true [.dat true y3q, .dat true (.sl (.int .i64)), .dat true (.int .i64), .dat true (.sl (.int .i64))]], []⟩
def X1_girolaw19_PairEnds_L0 : Spec := ⟨[(8, .c (.bool))], [], []⟩
def O_girolaw19_PairEnds_L0 : List (Ex × Spec) := [(.exit 0, X0_girolaw19_PairEnds_L0), (.ret, X1_girolaw19_PairEnds_L0)]
abbrev Z_girolaw19_PairEnds_L0 : Type := (Int × (List K1q) × (List K2q) × (List (List Int)) × (List Int) × (List (List Int)) × (List K2q) × (List (List Int)) × (List Int) × (List (List Int))) ⊕ Bool
def c_girolaw19_PairEnds_L0 (f : Int → List K1q → Int → List K2q → List (List Int) → List Int → List (List Int) → List K1q → List K2q → List (List Int) → List Int → List (List Int) → Option Z_girolaw19_PairEnds_L0) (d : I_girolaw19_PairEnds_L0.den) : Option Z_girolaw19_PairEnds_L0 := f d.1.1.1 d.1.2.2.1.1 d.1.2.2.2.2.2.1.1 d.2.1.1 d.2.1.2.1 d.2.1.2.2.1 d.2.1.2.2.2.1 d.2.2.1 d.2.2.2.1.1 d.2.2.2.1.2.1 d.2.2.2.1.2.2.1 d.2.2.2.1.2.2.2.1
def T_girolaw19_PairEnds_L0 : OutD O_girolaw19_PairEnds_L0 → Z_girolaw19_PairEnds_L0
 | .inl d => .inl (d.1.1.1, d.1.2.2.1.1, d.2.1.1, d.2.1.2.1, d.2.1.2.2.1, d.2.1.2.2.2.1, d.2.2.1.1, d.2.2.1.2.1, d.2.2.1.2.2.1, d.2.2.1.2.2.2.1)
 | .inr d => .inr d.1.1.1
def e_girolaw19_PairEnds_L0 (base : Nat) (x : Z_girolaw19_PairEnds_L0) (R : Type) (K : Ex → St → Option R) : Option R := match x with
 | .inl x => K (.exit 0) (stOf base X0_girolaw19_PairEnds_L0 (((x.1, ()), (), (x.2.1, ()), (), ()), ((x.2.2.1, x.2.2.2.1, x.2.2.2.2.1, x.2.2.2.2.2.1, ()), (x.2.2.2.2.2.2.1, x.2.2.2.2.2.2.2.1, x.2.2.2.2.2.2.2.2.1, x.2.2.2.2.2.2.2.2.2, ()), ())))
 | .inr x => K .ret (stOf base X1_girolaw19_PairEnds_L0 (((x, ()), ()), ()))
def L_girolaw19_PairEnds_L0 : LoopSum := ⟨I_girolaw19_PairEnds_L0, O_girolaw19_PairEnds_L0, Z_girolaw19_PairEnds_L0, fun k d => c_girolaw19_PairEnds_L0 (girolaw19_PairEnds_L0 k k) d, e_girolaw19_PairEnds_L0⟩
def A_girolaw19_PairEnds : Notes := ⟨[], [(9, L_girolaw19_PairEnds_L0)]⟩
theorem E_girolaw19_PairEnds_ok : EnvOK E_girolaw19_PairEnds := ⟨eqOK_none, sumsOf_ok (List.forall_mem_cons.2 ⟨Ro121q, List.forall_mem_cons.2 ⟨Ro122q, List.forall_mem_cons.2 ⟨Ro124q, List.forall_mem_cons.2 ⟨Ro100q, List.forall_mem_cons.2 ⟨Ro103q, List.forall_mem_cons.2 ⟨Ro48q, List.forall_mem_cons.2 ⟨Ro125q, List.forall_mem_cons.2 ⟨Ro41q, List.forall_mem_cons.2 ⟨Ro126q, List.forall_mem_nil _⟩⟩⟩⟩⟩⟩⟩⟩⟩)⟩
theorem E_girolaw19_PairEnds_local : SumsLocal E_girolaw19_PairEnds.sums := sumsOf_local (List.forall_mem_cons.2 ⟨Rl121q, List.forall_mem_cons.2 ⟨Rl122q, List.forall_mem_cons.2 ⟨Rl124q, List.forall_mem_cons.2 ⟨Rl100q, List.forall_mem_cons.2 ⟨Rl103q, List.forall_mem_cons.2 ⟨Rl48q, List.forall_mem_cons.2 ⟨Rl125q, List.forall_mem_cons.2 ⟨Rl41q, List.forall_mem_cons.2 ⟨Rl126q, List.forall_mem_nil _⟩⟩⟩⟩⟩⟩⟩⟩⟩)
theorem girolaw19_PairEnds_L0_step (k : Nat) (rec : Int → List K1q → Int → List K2q → List (List Int) → List Int → List (List Int) → List K1q → List K2q → List (List Int) → List Int → List (List Int) → Option Z_girolaw19_PairEnds_L0) (d : I_girolaw19_PairEnds_L0.den) : c_girolaw19_PairEnds_L0 (girolaw19_PairEnds_L0b k rec) d = evC E_girolaw19_PairEnds A_girolaw19_PairEnds k 1000 0 146 (loopAt (bodyOf Proofs.Try.f10) 0) (stOf (1000 + loopBase) I_girolaw19_PairEnds_L0 d) (roundK 1000 I_girolaw19_PairEnds_L0 O_girolaw19_PairEnds_L0 T_girolaw19_PairEnds_L0 (c_girolaw19_PairEnds_L0 rec)) := by
  obtain ⟨⟨⟨_, _⟩, _, ⟨_, _⟩, _, _, ⟨_, _⟩, _⟩, ⟨⟨_, _, _, _, _⟩, _, ⟨_, _, _, _, _⟩, _⟩⟩ := d
  kernel_rfl
theorem girolaw19_PairEnds_L0_ok : LoopOK Proofs.Try.prog 1000 0 146 (loopAt (bodyOf Proofs.Try.f10) 0) L_girolaw19_PairEnds_L0 :=
  loop_sound (A := A_girolaw19_PairEnds) (inS := I_girolaw19_PairEnds_L0) (outs := O_girolaw19_PairEnds_L0) E_girolaw19_PairEnds_ok E_girolaw19_PairEnds_local mixed_orders (loopsOK_none (by kernel_rfl)) T_girolaw19_PairEnds_L0 e_girolaw19_PairEnds_L0 (by intro o R K; rcases o with o | o <;> rfl) (fun k n d => c_girolaw19_PairEnds_L0 (girolaw19_PairEnds_L0 k n) d) (fun _ _ => rfl) (fun k n d => girolaw19_PairEnds_L0_step k (girolaw19_PairEnds_L0 k n) d)
def as_girolaw19_PairEnds : List AS := [.c (.dat false (.int .i64)), .c (.int .i64), .c (.dat false y7q), .c (.int .i64)]
def rs_girolaw19_PairEnds : RS := .c (.bool)
def pk_girolaw19_PairEnds : Bool → RL rs_girolaw19_PairEnds.cells := fun x => (x, ())
def up_girolaw19_PairEnds : RL rs_girolaw19_PairEnds.cells → Bool := fun d => d.1
def R_girolaw19_PairEnds : Nat × Entry := (10, fun k nm args h => entry as_girolaw19_PairEnds rs_girolaw19_PairEnds (fun d => girolaw19_PairEnds k d.1 d.2.1 d.2.2.1 d.2.2.2.1) pk_girolaw19_PairEnds nm args h)
theorem girolaw19_PairEnds_ev (k : Nat) (d : AD as_girolaw19_PairEnds) : evF E_girolaw19_PairEnds A_girolaw19_PairEnds k 1000 0 Proofs.Try.f10 (absArgs as_girolaw19_PairEnds d).1 (absArgs as_girolaw19_PairEnds d).2 (outM rs_girolaw19_PairEnds up_girolaw19_PairEnds) = girolaw19_PairEnds k d.1 d.2.1 d.2.2.1 d.2.2.2.1 := by
  obtain ⟨_, _, _, _, _⟩ := d
  kernel_rfl
theorem R_girolaw19_PairEnds_ok : EntryOK Proofs.Try.prog R_girolaw19_PairEnds := fun k _ _ _ _ _ hy =>
  entry_sound (unpack := up_girolaw19_PairEnds) (A := A_girolaw19_PairEnds) (k := k) (pre := 1000) (na := 0) (E := E_girolaw19_PairEnds) E_girolaw19_PairEnds_ok E_girolaw19_PairEnds_local mixed_orders (f := 10) (fn := Proofs.Try.f10) (by kernel_rfl) (body_loops (loopsOK_of (n := 1) (by kernel_rfl) fun i hi => match i, hi with | 0, _ => ⟨L_girolaw19_PairEnds_L0, by kernel_rfl, girolaw19_PairEnds_L0_ok⟩ | i + 1, hi => absurd hi (by omega))) (enters (fn := Proofs.Try.f10) (by kernel_rfl) (by kernel_rfl) (by kernel_rfl)) (fun _ => rfl) (girolaw19_PairEnds_ev k) hy
theorem R_girolaw19_PairEnds_local : EntryLocal R_girolaw19_PairEnds.2 := entry_local (S := fun k (d : AD as_girolaw19_PairEnds) => girolaw19_PairEnds k d.1 d.2.1 d.2.2.1 d.2.2.2.1)

end Go.Ab.Gi
