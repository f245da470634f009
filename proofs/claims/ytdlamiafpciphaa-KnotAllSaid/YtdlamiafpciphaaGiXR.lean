/- The shallow functions are what the program does, printed (abprint.py). -/
import Derived.Test.YtdlamiafpciphaaGiXRa
set_option linter.unusedVariables false
set_option maxRecDepth 100000
namespace Go.Ab.Gi

/-! ### giro/giroref10.Rows -/
noncomputable def E94q : Env := ⟨Proofs.Try.prog, fun _ => false, sumsOf [R93q]⟩
def I94_0q : Spec := ⟨[(0, .c (.dat false (.sl (.int .i64)))), (1, .c (.dat false (.sl (.int .i64)))), (5, .c (.int .i64))], [], []⟩
def X0_94_0q : Spec := ⟨[], [], []⟩
def X1_94_0q : Spec := ⟨[(4, .c (.bool))], [], []⟩
def O94_0q : List (Ex × Spec) := [(.exit 0, X0_94_0q), (.ret, X1_94_0q)]
abbrev Z94_0q : Type := Unit ⊕ Bool
def c94_0q (f : List (List Int) → List (List Int) → Int → Option Z94_0q) (d : I94_0q.den) : Option Z94_0q := f d.1.1.1 d.1.2.1.1 d.1.2.2.1.1
def T94_0q : OutD O94_0q → Z94_0q
 | .inl d => .inl ()
 | .inr d => .inr d.1.1.1
def e94_0q (base : Nat) (x : Z94_0q) (R : Type) (K : Ex → St → Option R) : Option R := match x with
 | .inl x => K (.exit 0) (stOf base X0_94_0q ((), ()))
 | .inr x => K .ret (stOf base X1_94_0q (((x, ()), ()), ()))
def L94_0q : LoopSum := ⟨I94_0q, O94_0q, Z94_0q, fun k d => c94_0q (giroref10_Rows_L0 k k) d, e94_0q⟩
def A94q : Notes := ⟨[], [(4, L94_0q)]⟩
theorem Eo94q : EnvOK E94q := ⟨eqOK_none, sumsOf_ok (List.forall_mem_cons.2 ⟨Ro93q, List.forall_mem_nil _⟩)⟩
theorem El94q : SumsLocal E94q.sums := sumsOf_local (List.forall_mem_cons.2 ⟨Rl93q, List.forall_mem_nil _⟩)
theorem st94_0q (k : Nat) (rec : List (List Int) → List (List Int) → Int → Option Z94_0q) (d : I94_0q.den) : c94_0q (giroref10_Rows_L0b k rec) d = evC E94q A94q k 1000 0 27 (loopAt (bodyOf Proofs.Try.f66) 0) (stOf (1000 + loopBase) I94_0q d) (roundK 1000 I94_0q O94_0q T94_0q (c94_0q rec)) := by
  obtain ⟨⟨⟨_, _⟩, ⟨_, _⟩, ⟨_, _⟩, _⟩, _⟩ := d
  kernel_rfl
theorem lk94_0q : LoopOK Proofs.Try.prog 1000 0 27 (loopAt (bodyOf Proofs.Try.f66) 0) L94_0q :=
  loop_sound (A := A94q) (inS := I94_0q) (outs := O94_0q) Eo94q El94q mixed_orders (loopsOK_none (by kernel_rfl)) T94_0q e94_0q (by intro o R K; rcases o with o | o <;> rfl) (fun k n d => c94_0q (giroref10_Rows_L0 k n) d) (fun _ _ => rfl) (fun k n d => st94_0q k (giroref10_Rows_L0 k n) d)
def as94q : List AS := [.c (.dat false (.sl (.int .i64))), .c (.dat false (.sl (.int .i64)))]
def rs94q : RS := .c (.bool)
def pk94q : Bool → RL rs94q.cells := fun x => (x, ())
def up94q : RL rs94q.cells → Bool := fun d => d.1
def R94q : Nat × Entry := (66, fun k nm args h => entry as94q rs94q (fun d => giroref10_Rows k d.1 d.2.1) pk94q nm args h)
theorem ev94q (k : Nat) (d : AD as94q) : evF E94q A94q k 1000 0 Proofs.Try.f66 (absArgs as94q d).1 (absArgs as94q d).2 (outM rs94q up94q) = giroref10_Rows k d.1 d.2.1 := by
  obtain ⟨_, _, _⟩ := d
  kernel_rfl
theorem Ro94q : EntryOK Proofs.Try.prog R94q := fun k _ _ _ _ _ hy =>
  entry_sound (unpack := up94q) (A := A94q) (k := k) (pre := 1000) (na := 0) (E := E94q) Eo94q El94q mixed_orders (f := 66) (fn := Proofs.Try.f66) (by kernel_rfl) (body_loops (loopsOK_of (n := 1) (by kernel_rfl) fun i hi => match i, hi with | 0, _ => ⟨L94_0q, by kernel_rfl, lk94_0q⟩ | i + 1, hi => absurd hi (by omega))) (enters (fn := Proofs.Try.f66) (by kernel_rfl) (by kernel_rfl) (by kernel_rfl)) (fun _ => rfl) (ev94q k) hy
theorem Rl94q : EntryLocal R94q.2 := entry_local (S := fun k (d : AD as94q) => giroref10_Rows k d.1 d.2.1)

/-! ### giro/giroref10.Same -/
noncomputable def E95q : Env := ⟨Proofs.Try.prog, fun t => [53].any (Nat.beq t), sumsOf [R94q, R93q]⟩
def I95_0q : Spec := ⟨[(2, .c (.lit (.ptr 1001000 0))), (3, .c (.lit (.ptr 1001001 0))), (5, .c (.int .i64))], [.box true [.dat false y3q, .dat false (.sl (.int .i64)), .dat false (.int .i64), .dat false (.sl (.int .i64))], .box true [.dat false y3q, .dat false (.sl (.int .i64)), .dat false (.int .i64), .dat false (.sl (.int .i64))]], []⟩
def X0_95_0q : Spec := ⟨[], [], []⟩
def X1_95_0q : Spec := ⟨[(4, .c (.bool))], [], []⟩
def O95_0q : List (Ex × Spec) := [(.exit 0, X0_95_0q), (.ret, X1_95_0q)]
abbrev Z95_0q : Type := Unit ⊕ Bool
def c95_0q (f : Int → List K2q → List (List Int) → List Int → List (List Int) → List K2q → List (List Int) → List Int → List (List Int) → Option Z95_0q) (d : I95_0q.den) : Option Z95_0q := f d.1.2.2.1.1 d.2.1.1 d.2.1.2.1 d.2.1.2.2.1 d.2.1.2.2.2.1 d.2.2.1.1 d.2.2.1.2.1 d.2.2.1.2.2.1 d.2.2.1.2.2.2.1
def T95_0q : OutD O95_0q → Z95_0q
 | .inl d => .inl ()
 | .inr d => .inr d.1.1.1
def e95_0q (base : Nat) (x : Z95_0q) (R : Type) (K : Ex → St → Option R) : Option R := match x with
 | .inl x => K (.exit 0) (stOf base X0_95_0q ((), ()))
 | .inr x => K .ret (stOf base X1_95_0q (((x, ()), ()), ()))
def L95_0q : LoopSum := ⟨I95_0q, O95_0q, Z95_0q, fun k d => c95_0q (giroref10_Same_L0 k k) d, e95_0q⟩
def A95q : Notes := ⟨[], [(4, L95_0q)]⟩
theorem Eo95q : EnvOK E95q := ⟨eqOK_flat (fun t h => eqT_mem (p := fun t => Proofs.Try.prog.keyTypeAt 8 t && !Proofs.Try.prog.eqGuardType Proofs.Try.prog.depth t) (l := [53]) (List.forall_mem_cons.2 ⟨by kernel_rfl, List.forall_mem_nil _⟩) t h), sumsOf_ok (List.forall_mem_cons.2 ⟨Ro94q, List.forall_mem_cons.2 ⟨Ro93q, List.forall_mem_nil _⟩⟩)⟩
theorem El95q : SumsLocal E95q.sums := sumsOf_local (List.forall_mem_cons.2 ⟨Rl94q, List.forall_mem_cons.2 ⟨Rl93q, List.forall_mem_nil _⟩⟩)
theorem st95_0q (k : Nat) (rec : Int → List K2q → List (List Int) → List Int → List (List Int) → List K2q → List (List Int) → List Int → List (List Int) → Option Z95_0q) (d : I95_0q.den) : c95_0q (giroref10_Same_L0b k rec) d = evC E95q A95q k 1000 0 55 (loopAt (bodyOf Proofs.Try.f29) 0) (stOf (1000 + loopBase) I95_0q d) (roundK 1000 I95_0q O95_0q T95_0q (c95_0q rec)) := by
  obtain ⟨⟨_, _, ⟨_, _⟩, _⟩, ⟨⟨_, _, _, _, _⟩, ⟨_, _, _, _, _⟩, _⟩⟩ := d
  kernel_rfl
theorem lk95_0q : LoopOK Proofs.Try.prog 1000 0 55 (loopAt (bodyOf Proofs.Try.f29) 0) L95_0q :=
  loop_sound (A := A95q) (inS := I95_0q) (outs := O95_0q) Eo95q El95q mixed_orders (loopsOK_none (by kernel_rfl)) T95_0q e95_0q (by intro o R K; rcases o with o | o <;> rfl) (fun k n d => c95_0q (giroref10_Same_L0 k n) d) (fun _ _ => rfl) (fun k n d => st95_0q k (giroref10_Same_L0 k n) d)
def as95q : List AS := [.agg [.dat false y3q, .dat false (.sl (.int .i64)), .dat false (.int .i64), .dat false (.sl (.int .i64))], .agg [.dat false y3q, .dat false (.sl (.int .i64)), .dat false (.int .i64), .dat false (.sl (.int .i64))]]
def rs95q : RS := .c (.bool)
def pk95q : Bool → RL rs95q.cells := fun x => (x, ())
def up95q : RL rs95q.cells → Bool := fun d => d.1
def R95q : Nat × Entry := (29, fun k nm args h => entry as95q rs95q (fun d => giroref10_Same k d.1 d.2.1 d.2.2.1 d.2.2.2.1 d.2.2.2.2.1 d.2.2.2.2.2.1 d.2.2.2.2.2.2.1 d.2.2.2.2.2.2.2.1) pk95q nm args h)
theorem ev95q (k : Nat) (d : AD as95q) : evF E95q A95q k 1000 0 Proofs.Try.f29 (absArgs as95q d).1 (absArgs as95q d).2 (outM rs95q up95q) = giroref10_Same k d.1 d.2.1 d.2.2.1 d.2.2.2.1 d.2.2.2.2.1 d.2.2.2.2.2.1 d.2.2.2.2.2.2.1 d.2.2.2.2.2.2.2.1 := by
  obtain ⟨_, _, _, _, _, _, _, _, _⟩ := d
  kernel_rfl
theorem Ro95q : EntryOK Proofs.Try.prog R95q := fun k _ _ _ _ _ hy =>
  entry_sound (unpack := up95q) (A := A95q) (k := k) (pre := 1000) (na := 0) (E := E95q) Eo95q El95q mixed_orders (f := 29) (fn := Proofs.Try.f29) (by kernel_rfl) (body_loops (loopsOK_of (n := 1) (by kernel_rfl) fun i hi => match i, hi with | 0, _ => ⟨L95_0q, by kernel_rfl, lk95_0q⟩ | i + 1, hi => absurd hi (by omega))) (enters (fn := Proofs.Try.f29) (by kernel_rfl) (by kernel_rfl) (by kernel_rfl)) (fun _ => rfl) (ev95q k) hy
theorem Rl95q : EntryLocal R95q.2 := entry_local (S := fun k (d : AD as95q) => giroref10_Same k d.1 d.2.1 d.2.2.1 d.2.2.2.1 d.2.2.2.2.1 d.2.2.2.2.2.1 d.2.2.2.2.2.2.1 d.2.2.2.2.2.2.2.1)

/-! ### giro/giroref11.Same -/
noncomputable def E96q : Env := ⟨Proofs.Try.prog, fun t => [51].any (Nat.beq t), sumsOf []⟩
def I96_0q : Spec := ⟨[(0, .c (.dat false y7q)), (1, .c (.dat false y7q)), (5, .c (.int .i64))], [], []⟩
def X0_96_0q : Spec := ⟨[], [], []⟩
def X1_96_0q : Spec := ⟨[(4, .c (.bool))], [], []⟩
def O96_0q : List (Ex × Spec) := [(.exit 0, X0_96_0q), (.ret, X1_96_0q)]
abbrev Z96_0q : Type := Unit ⊕ Bool
def c96_0q (f : List K1q → List K1q → Int → Option Z96_0q) (d : I96_0q.den) : Option Z96_0q := f d.1.1.1 d.1.2.1.1 d.1.2.2.1.1
def T96_0q : OutD O96_0q → Z96_0q
 | .inl d => .inl ()
 | .inr d => .inr d.1.1.1
def e96_0q (base : Nat) (x : Z96_0q) (R : Type) (K : Ex → St → Option R) : Option R := match x with
 | .inl x => K (.exit 0) (stOf base X0_96_0q ((), ()))
 | .inr x => K .ret (stOf base X1_96_0q (((x, ()), ()), ()))
def L96_0q : LoopSum := ⟨I96_0q, O96_0q, Z96_0q, fun k d => c96_0q (giroref11_Same_L0 k k) d, e96_0q⟩
def A96q : Notes := ⟨[], [(4, L96_0q)]⟩
theorem Eo96q : EnvOK E96q := ⟨eqOK_flat (fun t h => eqT_mem (p := fun t => Proofs.Try.prog.keyTypeAt 8 t && !Proofs.Try.prog.eqGuardType Proofs.Try.prog.depth t) (l := [51]) (List.forall_mem_cons.2 ⟨by kernel_rfl, List.forall_mem_nil _⟩) t h), sumsOf_ok (List.forall_mem_nil _)⟩
theorem El96q : SumsLocal E96q.sums := sumsOf_local (List.forall_mem_nil _)
theorem st96_0q (k : Nat) (rec : List K1q → List K1q → Int → Option Z96_0q) (d : I96_0q.den) : c96_0q (giroref11_Same_L0b k rec) d = evC E96q A96q k 1000 0 26 (loopAt (bodyOf Proofs.Try.f30) 0) (stOf (1000 + loopBase) I96_0q d) (roundK 1000 I96_0q O96_0q T96_0q (c96_0q rec)) := by
  obtain ⟨⟨⟨_, _⟩, ⟨_, _⟩, ⟨_, _⟩, _⟩, _⟩ := d
  kernel_rfl
theorem lk96_0q : LoopOK Proofs.Try.prog 1000 0 26 (loopAt (bodyOf Proofs.Try.f30) 0) L96_0q :=
  loop_sound (A := A96q) (inS := I96_0q) (outs := O96_0q) Eo96q El96q mixed_orders (loopsOK_none (by kernel_rfl)) T96_0q e96_0q (by intro o R K; rcases o with o | o <;> rfl) (fun k n d => c96_0q (giroref11_Same_L0 k n) d) (fun _ _ => rfl) (fun k n d => st96_0q k (giroref11_Same_L0 k n) d)
def as96q : List AS := [.c (.dat false y7q), .c (.dat false y7q)]
def rs96q : RS := .c (.bool)
def pk96q : Bool → RL rs96q.cells := fun x => (x, ())
def up96q : RL rs96q.cells → Bool := fun d => d.1
def R96q : Nat × Entry := (30, fun k nm args h => entry as96q rs96q (fun d => giroref11_Same k d.1 d.2.1) pk96q nm args h)
theorem ev96q (k : Nat) (d : AD as96q) : evF E96q A96q k 1000 0 Proofs.Try.f30 (absArgs as96q d).1 (absArgs as96q d).2 (outM rs96q up96q) = giroref11_Same k d.1 d.2.1 := by
  obtain ⟨_, _, _⟩ := d
  kernel_rfl
theorem Ro96q : EntryOK Proofs.Try.prog R96q := fun k _ _ _ _ _ hy =>
  entry_sound (unpack := up96q) (A := A96q) (k := k) (pre := 1000) (na := 0) (E := E96q) Eo96q El96q mixed_orders (f := 30) (fn := Proofs.Try.f30) (by kernel_rfl) (body_loops (loopsOK_of (n := 1) (by kernel_rfl) fun i hi => match i, hi with | 0, _ => ⟨L96_0q, by kernel_rfl, lk96_0q⟩ | i + 1, hi => absurd hi (by omega))) (enters (fn := Proofs.Try.f30) (by kernel_rfl) (by kernel_rfl) (by kernel_rfl)) (fun _ => rfl) (ev96q k) hy
theorem Rl96q : EntryLocal R96q.2 := entry_local (S := fun k (d : AD as96q) => giroref11_Same k d.1 d.2.1)

/-! ### giro/girolaw20.ring -/
noncomputable def E98q : Env := ⟨Proofs.Try.prog, fun _ => false, sumsOf []⟩
def I98_0q : Spec := ⟨[(0, .c (.int .i64)), (3, .c (.lit (.osl 1001000 none))), (4, .c (.int .i64))], [.arr true y7q], [(3, none, y7q, false)]⟩
def X0_98_0q : Spec := ⟨[(3, .c (.lit (.osl 1001000 none)))], [.arr true y7q], []⟩
def O98_0q : List (Ex × Spec) := [(.exit 0, X0_98_0q)]
abbrev Z98_0q : Type := List K1q
def c98_0q (f : Int → Int → List K1q → Option Z98_0q) (d : I98_0q.den) : Option Z98_0q := f d.1.1.1 d.1.2.2.1.1 d.2.1
def T98_0q : OutD O98_0q → Z98_0q := fun d => d.2.1
def e98_0q (base : Nat) (x : Z98_0q) (R : Type) (K : Ex → St → Option R) : Option R := K (.exit 0) (stOf base X0_98_0q (((), ()), (x, ())))
def L98_0q : LoopSum := ⟨I98_0q, O98_0q, Z98_0q, fun k d => c98_0q (girolaw20_ring_L0 k k) d, e98_0q⟩
def A98q : Notes := ⟨[], [(3, L98_0q)]⟩
theorem Eo98q : EnvOK E98q := ⟨eqOK_none, sumsOf_ok (List.forall_mem_nil _)⟩
theorem El98q : SumsLocal E98q.sums := sumsOf_local (List.forall_mem_nil _)
theorem st98_0q (k : Nat) (rec : Int → Int → List K1q → Option Z98_0q) (d : I98_0q.den) : c98_0q (girolaw20_ring_L0b k rec) d = evC E98q A98q k 1000 0 21 (loopAt (bodyOf Proofs.Try.f31) 0) (stOf (1000 + loopBase) I98_0q d) (roundK 1000 I98_0q O98_0q T98_0q (c98_0q rec)) := by
  obtain ⟨⟨⟨_, _⟩, _, ⟨_, _⟩, _⟩, ⟨_, _⟩⟩ := d
  kernel_rfl
theorem lk98_0q : LoopOK Proofs.Try.prog 1000 0 21 (loopAt (bodyOf Proofs.Try.f31) 0) L98_0q :=
  loop_sound (A := A98q) (inS := I98_0q) (outs := O98_0q) Eo98q El98q mixed_orders (loopsOK_none (by kernel_rfl)) T98_0q e98_0q (fun _ _ _ => rfl) (fun k n d => c98_0q (girolaw20_ring_L0 k n) d) (fun _ _ => rfl) (fun k n d => st98_0q k (girolaw20_ring_L0 k n) d)
def as98q : List AS := [.c (.int .i64)]
def rs98q : RS := .c (.own y7q)
def pk98q : List K1q → RL rs98q.cells := fun x => (x, ())
def up98q : RL rs98q.cells → List K1q := fun d => d.1
def R98q : Nat × Entry := (31, fun k nm args h => entry as98q rs98q (fun d => girolaw20_ring k d.1) pk98q nm args h)
theorem ev98q (k : Nat) (d : AD as98q) : evF E98q A98q k 1000 0 Proofs.Try.f31 (absArgs as98q d).1 (absArgs as98q d).2 (outM rs98q up98q) = girolaw20_ring k d.1 := by
  obtain ⟨_, _⟩ := d
  kernel_rfl
theorem Ro98q : EntryOK Proofs.Try.prog R98q := fun k _ _ _ _ _ hy =>
  entry_sound (unpack := up98q) (A := A98q) (k := k) (pre := 1000) (na := 0) (E := E98q) Eo98q El98q mixed_orders (f := 31) (fn := Proofs.Try.f31) (by kernel_rfl) (body_loops (loopsOK_of (n := 1) (by kernel_rfl) fun i hi => match i, hi with | 0, _ => ⟨L98_0q, by kernel_rfl, lk98_0q⟩ | i + 1, hi => absurd hi (by omega))) (enters (fn := Proofs.Try.f31) (by kernel_rfl) (by kernel_rfl) (by kernel_rfl)) (fun _ => rfl) (ev98q k) hy
theorem Rl98q : EntryLocal R98q.2 := entry_local (S := fun k (d : AD as98q) => girolaw20_ring k d.1)

/-! ### giro/girolaw20.known -/
noncomputable def E99q : Env := ⟨Proofs.Try.prog, fun _ => false, sumsOf [R0q, R98q, R33q, R79q]⟩
def A99q : Notes := ⟨[], []⟩
theorem Eo99q : EnvOK E99q := ⟨eqOK_none, sumsOf_ok (List.forall_mem_cons.2 ⟨Ro0q, List.forall_mem_cons.2 ⟨Ro98q, List.forall_mem_cons.2 ⟨Ro33q, List.forall_mem_cons.2 ⟨Ro79q, List.forall_mem_nil _⟩⟩⟩⟩)⟩
theorem El99q : SumsLocal E99q.sums := sumsOf_local (List.forall_mem_cons.2 ⟨Rl0q, List.forall_mem_cons.2 ⟨Rl98q, List.forall_mem_cons.2 ⟨Rl33q, List.forall_mem_cons.2 ⟨Rl79q, List.forall_mem_nil _⟩⟩⟩⟩)
def as99q : List AS := []
def rs99q : RS := .c (.bool)
def pk99q : Bool → RL rs99q.cells := fun x => (x, ())
def up99q : RL rs99q.cells → Bool := fun d => d.1
def R99q : Nat × Entry := (20, fun k nm args h => entry as99q rs99q (fun d => girolaw20_known k) pk99q nm args h)
theorem ev99q (k : Nat) (d : AD as99q) : evF E99q A99q k 1000 0 Proofs.Try.f20 (absArgs as99q d).1 (absArgs as99q d).2 (outM rs99q up99q) = girolaw20_known k := by
  kernel_rfl
theorem Ro99q : EntryOK Proofs.Try.prog R99q := fun k _ _ _ _ _ hy =>
  entry_sound (unpack := up99q) (A := A99q) (k := k) (pre := 1000) (na := 0) (E := E99q) Eo99q El99q mixed_orders (f := 20) (fn := Proofs.Try.f20) (by kernel_rfl) (body_loops (loopsOK_none (by kernel_rfl))) (enters (fn := Proofs.Try.f20) (by kernel_rfl) (by kernel_rfl) (by kernel_rfl)) (fun _ => rfl) (ev99q k) hy
theorem Rl99q : EntryLocal R99q.2 := entry_local (S := fun k (d : AD as99q) => girolaw20_known k)

/-! ### giro/giroref15.Fits -/
noncomputable def E103q : Env := ⟨Proofs.Try.prog, fun _ => false, sumsOf [R81q, R43q]⟩
def A103q : Notes := ⟨[], []⟩
theorem Eo103q : EnvOK E103q := ⟨eqOK_none, sumsOf_ok (List.forall_mem_cons.2 ⟨Ro81q, List.forall_mem_cons.2 ⟨Ro43q, List.forall_mem_nil _⟩⟩)⟩
theorem El103q : SumsLocal E103q.sums := sumsOf_local (List.forall_mem_cons.2 ⟨Rl81q, List.forall_mem_cons.2 ⟨Rl43q, List.forall_mem_nil _⟩⟩)
def as103q : List AS := [.agg [.dat false y3q, .dat false (.sl (.int .i64)), .dat false (.int .i64), .dat false (.sl (.int .i64))], .c (.dat false y7q)]
def rs103q : RS := .c (.bool)
def pk103q : Bool → RL rs103q.cells := fun x => (x, ())
def up103q : RL rs103q.cells → Bool := fun d => d.1
def R103q : Nat × Entry := (25, fun k nm args h => entry as103q rs103q (fun d => giroref15_Fits k d.1 d.2.1 d.2.2.1 d.2.2.2.1 d.2.2.2.2.1) pk103q nm args h)
theorem ev103q (k : Nat) (d : AD as103q) : evF E103q A103q k 1000 0 Proofs.Try.f25 (absArgs as103q d).1 (absArgs as103q d).2 (outM rs103q up103q) = giroref15_Fits k d.1 d.2.1 d.2.2.1 d.2.2.2.1 d.2.2.2.2.1 := by
  obtain ⟨_, _, _, _, _, _⟩ := d
  kernel_rfl
theorem Ro103q : EntryOK Proofs.Try.prog R103q := fun k _ _ _ _ _ hy =>
  entry_sound (unpack := up103q) (A := A103q) (k := k) (pre := 1000) (na := 0) (E := E103q) Eo103q El103q mixed_orders (f := 25) (fn := Proofs.Try.f25) (by kernel_rfl) (body_loops (loopsOK_none (by kernel_rfl))) (enters (fn := Proofs.Try.f25) (by kernel_rfl) (by kernel_rfl) (by kernel_rfl)) (fun _ => rfl) (ev103q k) hy
theorem Rl103q : EntryLocal R103q.2 := entry_local (S := fun k (d : AD as103q) => giroref15_Fits k d.1 d.2.1 d.2.2.1 d.2.2.2.1 d.2.2.2.2.1)

/-! ### giro/girolaw20.KnotAll -/
noncomputable def E_girolaw20_KnotAll : Env := ⟨Proofs.Try.prog, fun _ => false, sumsOf [R0q, R6q, R35q, R103q, R33q, R79q, R90q, R95q, R96q, R99q]⟩
def A_girolaw20_KnotAll : Notes := ⟨[], []⟩
theorem E_girolaw20_KnotAll_ok : EnvOK E_girolaw20_KnotAll := ⟨eqOK_none, sumsOf_ok (List.forall_mem_cons.2 ⟨Ro0q, List.forall_mem_cons.2 ⟨Ro6q, List.forall_mem_cons.2 ⟨Ro35q, List.forall_mem_cons.2 ⟨Ro103q, List.forall_mem_cons.2 ⟨Ro33q, List.forall_mem_cons.2 ⟨Ro79q, List.forall_mem_cons.2 ⟨Ro90q, List.forall_mem_cons.2 ⟨Ro95q, List.forall_mem_cons.2 ⟨Ro96q, List.forall_mem_cons.2 ⟨Ro99q, List.forall_mem_nil _⟩⟩⟩⟩⟩⟩⟩⟩⟩⟩)⟩
theorem E_girolaw20_KnotAll_local : SumsLocal E_girolaw20_KnotAll.sums := sumsOf_local (List.forall_mem_cons.2 ⟨Rl0q, List.forall_mem_cons.2 ⟨Rl6q, List.forall_mem_cons.2 ⟨Rl35q, List.forall_mem_cons.2 ⟨Rl103q, List.forall_mem_cons.2 ⟨Rl33q, List.forall_mem_cons.2 ⟨Rl79q, List.forall_mem_cons.2 ⟨Rl90q, List.forall_mem_cons.2 ⟨Rl95q, List.forall_mem_cons.2 ⟨Rl96q, List.forall_mem_cons.2 ⟨Rl99q, List.forall_mem_nil _⟩⟩⟩⟩⟩⟩⟩⟩⟩⟩)
def as_girolaw20_KnotAll : List AS := [.c (.dat false (.int .i64)), .c (.int .i64), .c (.dat false y7q), .c (.int .i64)]
def rs_girolaw20_KnotAll : RS := .c (.bool)
def pk_girolaw20_KnotAll : Bool → RL rs_girolaw20_KnotAll.cells := fun x => (x, ())
def up_girolaw20_KnotAll : RL rs_girolaw20_KnotAll.cells → Bool := fun d => d.1
def R_girolaw20_KnotAll : Nat × Entry := (6, fun k nm args h => entry as_girolaw20_KnotAll rs_girolaw20_KnotAll (fun d => girolaw20_KnotAll k d.1 d.2.1 d.2.2.1 d.2.2.2.1) pk_girolaw20_KnotAll nm args h)
theorem girolaw20_KnotAll_ev (k : Nat) (d : AD as_girolaw20_KnotAll) : evF E_girolaw20_KnotAll A_girolaw20_KnotAll k 1000 0 Proofs.Try.f6 (absArgs as_girolaw20_KnotAll d).1 (absArgs as_girolaw20_KnotAll d).2 (outM rs_girolaw20_KnotAll up_girolaw20_KnotAll) = girolaw20_KnotAll k d.1 d.2.1 d.2.2.1 d.2.2.2.1 := by
  obtain ⟨_, _, _, _, _⟩ := d
  kernel_rfl
theorem R_girolaw20_KnotAll_ok : EntryOK Proofs.Try.prog R_girolaw20_KnotAll := fun k _ _ _ _ _ hy =>
  entry_sound (unpack := up_girolaw20_KnotAll) (A := A_girolaw20_KnotAll) (k := k) (pre := 1000) (na := 0) (E := E_girolaw20_KnotAll) E_girolaw20_KnotAll_ok E_girolaw20_KnotAll_local mixed_orders (f := 6) (fn := Proofs.Try.f6) (by kernel_rfl) (body_loops (loopsOK_none (by kernel_rfl))) (enters (fn := Proofs.Try.f6) (by kernel_rfl) (by kernel_rfl) (by kernel_rfl)) (fun _ => rfl) (girolaw20_KnotAll_ev k) hy
theorem R_girolaw20_KnotAll_local : EntryLocal R_girolaw20_KnotAll.2 := entry_local (S := fun k (d : AD as_girolaw20_KnotAll) => girolaw20_KnotAll k d.1 d.2.1 d.2.2.1 d.2.2.2.1)

end Go.Ab.Gi
