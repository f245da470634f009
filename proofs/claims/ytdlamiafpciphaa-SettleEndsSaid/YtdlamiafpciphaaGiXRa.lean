/- The shallow functions are what the program does, printed (abprint.py). -/
import Derived.Test.YtdlamiafpciphaaGiXS
import Derived.Test.YtdlamiafpciphaaProg
set_option linter.unusedVariables false
set_option maxRecDepth 100000
namespace Go.Ab.Gi

theorem mixed_orders : Proofs.Try.prog.follows .mixedOrders = true := by kernel_rfl

/-! ### giro/giroref13.Find -/
noncomputable def E1q : Env := ⟨Proofs.Try.prog, fun _ => false, sumsOf []⟩
def I1_0q : Spec := ⟨[(0, .c (.dat false y7q)), (1, .c (.int .i64)), (5, .c (.int .i64))], [], []⟩
def X0_1_0q : Spec := ⟨[], [], []⟩
def X1_1_0q : Spec := ⟨[(4, .c (.int .i64))], [], []⟩
def O1_0q : List (Ex × Spec) := [(.exit 0, X0_1_0q), (.ret, X1_1_0q)]
abbrev Z1_0q : Type := Unit ⊕ Int
def c1_0q (f : List K1q → Int → Int → Option Z1_0q) (d : I1_0q.den) : Option Z1_0q := f d.1.1.1 d.1.2.1.1 d.1.2.2.1.1
def T1_0q : OutD O1_0q → Z1_0q
 | .inl d => .inl ()
 | .inr d => .inr d.1.1.1
def e1_0q (base : Nat) (x : Z1_0q) (R : Type) (K : Ex → St → Option R) : Option R := match x with
 | .inl x => K (.exit 0) (stOf base X0_1_0q ((), ()))
 | .inr x => K .ret (stOf base X1_1_0q (((x, ()), ()), ()))
def L1_0q : LoopSum := ⟨I1_0q, O1_0q, Z1_0q, fun k d => c1_0q (giroref13_Find_L0 k k) d, e1_0q⟩
def A1q : Notes := ⟨[], [(2, L1_0q)]⟩
theorem Eo1q : EnvOK E1q := ⟨eqOK_none, sumsOf_ok (List.forall_mem_nil _)⟩
theorem El1q : SumsLocal E1q.sums := sumsOf_local (List.forall_mem_nil _)
theorem st1_0q (k : Nat) (rec : List K1q → Int → Int → Option Z1_0q) (d : I1_0q.den) : c1_0q (giroref13_Find_L0b k rec) d = evC E1q A1q k 1000 0 20 (loopAt (bodyOf Proofs.Try.f35) 0) (stOf (1000 + loopBase) I1_0q d) (roundK 1000 I1_0q O1_0q T1_0q (c1_0q rec)) := by
  obtain ⟨⟨⟨_, _⟩, ⟨_, _⟩, ⟨_, _⟩, _⟩, _⟩ := d
  kernel_rfl
theorem lk1_0q : LoopOK Proofs.Try.prog 1000 0 20 (loopAt (bodyOf Proofs.Try.f35) 0) L1_0q :=
  loop_sound (A := A1q) (inS := I1_0q) (outs := O1_0q) Eo1q El1q mixed_orders (loopsOK_none (by kernel_rfl)) T1_0q e1_0q (by intro o R K; rcases o with o | o <;> rfl) (fun k n d => c1_0q (giroref13_Find_L0 k n) d) (fun _ _ => rfl) (fun k n d => st1_0q k (giroref13_Find_L0 k n) d)
def as1q : List AS := [.c (.dat false y7q), .c (.int .i64)]
def rs1q : RS := .c (.int .i64)
def pk1q : Int → RL rs1q.cells := fun x => (x, ())
def up1q : RL rs1q.cells → Int := fun d => d.1
def R1q : Nat × Entry := (35, fun k nm args h => entry as1q rs1q (fun d => giroref13_Find k d.1 d.2.1) pk1q nm args h)
theorem ev1q (k : Nat) (d : AD as1q) : evF E1q A1q k 1000 0 Proofs.Try.f35 (absArgs as1q d).1 (absArgs as1q d).2 (outM rs1q up1q) = giroref13_Find k d.1 d.2.1 := by
  obtain ⟨_, _, _⟩ := d
  kernel_rfl
theorem Ro1q : EntryOK Proofs.Try.prog R1q := fun k _ _ _ _ _ hy =>
  entry_sound (unpack := up1q) (A := A1q) (k := k) (pre := 1000) (na := 0) (E := E1q) Eo1q El1q mixed_orders (f := 35) (fn := Proofs.Try.f35) (by kernel_rfl) (body_loops (loopsOK_of (n := 1) (by kernel_rfl) fun i hi => match i, hi with | 0, _ => ⟨L1_0q, by kernel_rfl, lk1_0q⟩ | i + 1, hi => absurd hi (by omega))) (enters (fn := Proofs.Try.f35) (by kernel_rfl) (by kernel_rfl) (by kernel_rfl)) (fun _ => rfl) (ev1q k) hy
theorem Rl1q : EntryLocal R1q.2 := entry_local (S := fun k (d : AD as1q) => giroref13_Find k d.1 d.2.1)

/-! ### giro/giroref13.ahead -/
noncomputable def E2q : Env := ⟨Proofs.Try.prog, fun _ => false, sumsOf []⟩
def A2q : Notes := ⟨[], []⟩
theorem Eo2q : EnvOK E2q := ⟨eqOK_none, sumsOf_ok (List.forall_mem_nil _)⟩
theorem El2q : SumsLocal E2q.sums := sumsOf_local (List.forall_mem_nil _)
def as2q : List AS := [.agg [.int .i64, .int .i64, .int .i64, .int .i64, .int .i64, .int .i64, .int .i64], .agg [.int .i64, .int .i64, .int .i64, .int .i64, .int .i64, .int .i64, .int .i64]]
def rs2q : RS := .c (.bool)
def pk2q : Bool → RL rs2q.cells := fun x => (x, ())
def up2q : RL rs2q.cells → Bool := fun d => d.1
def R2q : Nat × Entry := (59, fun k nm args h => entry as2q rs2q (fun d => giroref13_ahead k d.1 d.2.1 d.2.2.1 d.2.2.2.1 d.2.2.2.2.1 d.2.2.2.2.2.1 d.2.2.2.2.2.2.1 d.2.2.2.2.2.2.2.1 d.2.2.2.2.2.2.2.2.1 d.2.2.2.2.2.2.2.2.2.1 d.2.2.2.2.2.2.2.2.2.2.1 d.2.2.2.2.2.2.2.2.2.2.2.1 d.2.2.2.2.2.2.2.2.2.2.2.2.1 d.2.2.2.2.2.2.2.2.2.2.2.2.2.1) pk2q nm args h)
theorem ev2q (k : Nat) (d : AD as2q) : evF E2q A2q k 1000 0 Proofs.Try.f59 (absArgs as2q d).1 (absArgs as2q d).2 (outM rs2q up2q) = giroref13_ahead k d.1 d.2.1 d.2.2.1 d.2.2.2.1 d.2.2.2.2.1 d.2.2.2.2.2.1 d.2.2.2.2.2.2.1 d.2.2.2.2.2.2.2.1 d.2.2.2.2.2.2.2.2.1 d.2.2.2.2.2.2.2.2.2.1 d.2.2.2.2.2.2.2.2.2.2.1 d.2.2.2.2.2.2.2.2.2.2.2.1 d.2.2.2.2.2.2.2.2.2.2.2.2.1 d.2.2.2.2.2.2.2.2.2.2.2.2.2.1 := by
  obtain ⟨_, _, _, _, _, _, _, _, _, _, _, _, _, _, _⟩ := d
  kernel_rfl
theorem Ro2q : EntryOK Proofs.Try.prog R2q := fun k _ _ _ _ _ hy =>
  entry_sound (unpack := up2q) (A := A2q) (k := k) (pre := 1000) (na := 0) (E := E2q) Eo2q El2q mixed_orders (f := 59) (fn := Proofs.Try.f59) (by kernel_rfl) (body_loops (loopsOK_none (by kernel_rfl))) (enters (fn := Proofs.Try.f59) (by kernel_rfl) (by kernel_rfl) (by kernel_rfl)) (fun _ => rfl) (ev2q k) hy
theorem Rl2q : EntryLocal R2q.2 := entry_local (S := fun k (d : AD as2q) => giroref13_ahead k d.1 d.2.1 d.2.2.1 d.2.2.2.1 d.2.2.2.2.1 d.2.2.2.2.2.1 d.2.2.2.2.2.2.1 d.2.2.2.2.2.2.2.1 d.2.2.2.2.2.2.2.2.1 d.2.2.2.2.2.2.2.2.2.1 d.2.2.2.2.2.2.2.2.2.2.1 d.2.2.2.2.2.2.2.2.2.2.2.1 d.2.2.2.2.2.2.2.2.2.2.2.2.1 d.2.2.2.2.2.2.2.2.2.2.2.2.2.1)

/-! ### giro/giroref13.behind -/
noncomputable def E3q : Env := ⟨Proofs.Try.prog, fun _ => false, sumsOf [R2q]⟩
def I3_0q : Spec := ⟨[(0, .c (.dat false y7q)), (3, .c (.lit (.ptr 1001000 0))), (5, .c (.int .i64))], [.box true [.int .i64, .int .i64, .int .i64, .int .i64, .int .i64, .int .i64, .int .i64]], []⟩
def X0_3_0q : Spec := ⟨[(5, .c (.int .i64))], [], []⟩
def O3_0q : List (Ex × Spec) := [(.exit 0, X0_3_0q)]
abbrev Z3_0q : Type := Int
def c3_0q (f : List K1q → Int → Int → Int → Int → Int → Int → Int → Int → Option Z3_0q) (d : I3_0q.den) : Option Z3_0q := f d.1.1.1 d.1.2.2.1.1 d.2.1.1 d.2.1.2.1 d.2.1.2.2.1 d.2.1.2.2.2.1 d.2.1.2.2.2.2.1 d.2.1.2.2.2.2.2.1 d.2.1.2.2.2.2.2.2.1
def T3_0q : OutD O3_0q → Z3_0q := fun d => d.1.1.1
def e3_0q (base : Nat) (x : Z3_0q) (R : Type) (K : Ex → St → Option R) : Option R := K (.exit 0) (stOf base X0_3_0q (((x, ()), ()), ()))
def L3_0q : LoopSum := ⟨I3_0q, O3_0q, Z3_0q, fun k d => c3_0q (giroref13_behind_L0 k k) d, e3_0q⟩
def A3q : Notes := ⟨[], [(2, L3_0q)]⟩
theorem Eo3q : EnvOK E3q := ⟨eqOK_none, sumsOf_ok (List.forall_mem_cons.2 ⟨Ro2q, List.forall_mem_nil _⟩)⟩
theorem El3q : SumsLocal E3q.sums := sumsOf_local (List.forall_mem_cons.2 ⟨Rl2q, List.forall_mem_nil _⟩)
theorem st3_0q (k : Nat) (rec : List K1q → Int → Int → Int → Int → Int → Int → Int → Int → Option Z3_0q) (d : I3_0q.den) : c3_0q (giroref13_behind_L0b k rec) d = evC E3q A3q k 1000 0 21 (loopAt (bodyOf Proofs.Try.f82) 0) (stOf (1000 + loopBase) I3_0q d) (roundK 1000 I3_0q O3_0q T3_0q (c3_0q rec)) := by
  obtain ⟨⟨⟨_, _⟩, _, ⟨_, _⟩, _⟩, ⟨⟨_, _, _, _, _, _, _, _⟩, _⟩⟩ := d
  kernel_rfl
theorem lk3_0q : LoopOK Proofs.Try.prog 1000 0 21 (loopAt (bodyOf Proofs.Try.f82) 0) L3_0q :=
  loop_sound (A := A3q) (inS := I3_0q) (outs := O3_0q) Eo3q El3q mixed_orders (loopsOK_none (by kernel_rfl)) T3_0q e3_0q (fun _ _ _ => rfl) (fun k n d => c3_0q (giroref13_behind_L0 k n) d) (fun _ _ => rfl) (fun k n d => st3_0q k (giroref13_behind_L0 k n) d)
def as3q : List AS := [.c (.dat false y7q), .agg [.int .i64, .int .i64, .int .i64, .int .i64, .int .i64, .int .i64, .int .i64]]
def rs3q : RS := .c (.int .i64)
def pk3q : Int → RL rs3q.cells := fun x => (x, ())
def up3q : RL rs3q.cells → Int := fun d => d.1
def R3q : Nat × Entry := (82, fun k nm args h => entry as3q rs3q (fun d => giroref13_behind k d.1 d.2.1 d.2.2.1 d.2.2.2.1 d.2.2.2.2.1 d.2.2.2.2.2.1 d.2.2.2.2.2.2.1 d.2.2.2.2.2.2.2.1) pk3q nm args h)
theorem ev3q (k : Nat) (d : AD as3q) : evF E3q A3q k 1000 0 Proofs.Try.f82 (absArgs as3q d).1 (absArgs as3q d).2 (outM rs3q up3q) = giroref13_behind k d.1 d.2.1 d.2.2.1 d.2.2.2.1 d.2.2.2.2.1 d.2.2.2.2.2.1 d.2.2.2.2.2.2.1 d.2.2.2.2.2.2.2.1 := by
  obtain ⟨_, _, _, _, _, _, _, _, _⟩ := d
  kernel_rfl
theorem Ro3q : EntryOK Proofs.Try.prog R3q := fun k _ _ _ _ _ hy =>
  entry_sound (unpack := up3q) (A := A3q) (k := k) (pre := 1000) (na := 0) (E := E3q) Eo3q El3q mixed_orders (f := 82) (fn := Proofs.Try.f82) (by kernel_rfl) (body_loops (loopsOK_of (n := 1) (by kernel_rfl) fun i hi => match i, hi with | 0, _ => ⟨L3_0q, by kernel_rfl, lk3_0q⟩ | i + 1, hi => absurd hi (by omega))) (enters (fn := Proofs.Try.f82) (by kernel_rfl) (by kernel_rfl) (by kernel_rfl)) (fun _ => rfl) (ev3q k) hy
theorem Rl3q : EntryLocal R3q.2 := entry_local (S := fun k (d : AD as3q) => giroref13_behind k d.1 d.2.1 d.2.2.1 d.2.2.2.1 d.2.2.2.2.1 d.2.2.2.2.2.1 d.2.2.2.2.2.2.1 d.2.2.2.2.2.2.2.1)

/-! ### giro/giroref13.insert -/
noncomputable def E4q : Env := ⟨Proofs.Try.prog, fun _ => false, sumsOf []⟩
def A4q : Notes := ⟨[], []⟩
theorem Eo4q : EnvOK E4q := ⟨eqOK_none, sumsOf_ok (List.forall_mem_nil _)⟩
theorem El4q : SumsLocal E4q.sums := sumsOf_local (List.forall_mem_nil _)
def as4q : List AS := [.c (.dat false y7q), .c (.int .i64), .agg [.int .i64, .int .i64, .int .i64, .int .i64, .int .i64, .int .i64, .int .i64]]
def rs4q : RS := .c (.own y7q)
def pk4q : List K1q → RL rs4q.cells := fun x => (x, ())
def up4q : RL rs4q.cells → List K1q := fun d => d.1
def R4q : Nat × Entry := (81, fun k nm args h => entry as4q rs4q (fun d => giroref13_insert k d.1 d.2.1 d.2.2.1 d.2.2.2.1 d.2.2.2.2.1 d.2.2.2.2.2.1 d.2.2.2.2.2.2.1 d.2.2.2.2.2.2.2.1 d.2.2.2.2.2.2.2.2.1) pk4q nm args h)
theorem ev4q (k : Nat) (d : AD as4q) : evF E4q A4q k 1000 0 Proofs.Try.f81 (absArgs as4q d).1 (absArgs as4q d).2 (outM rs4q up4q) = giroref13_insert k d.1 d.2.1 d.2.2.1 d.2.2.2.1 d.2.2.2.2.1 d.2.2.2.2.2.1 d.2.2.2.2.2.2.1 d.2.2.2.2.2.2.2.1 d.2.2.2.2.2.2.2.2.1 := by
  obtain ⟨_, _, _, _, _, _, _, _, _, _⟩ := d
  kernel_rfl
theorem Ro4q : EntryOK Proofs.Try.prog R4q := fun k _ _ _ _ _ hy =>
  entry_sound (unpack := up4q) (A := A4q) (k := k) (pre := 1000) (na := 0) (E := E4q) Eo4q El4q mixed_orders (f := 81) (fn := Proofs.Try.f81) (by kernel_rfl) (body_loops (loopsOK_none (by kernel_rfl))) (enters (fn := Proofs.Try.f81) (by kernel_rfl) (by kernel_rfl) (by kernel_rfl)) (fun _ => rfl) (ev4q k) hy
theorem Rl4q : EntryLocal R4q.2 := entry_local (S := fun k (d : AD as4q) => giroref13_insert k d.1 d.2.1 d.2.2.1 d.2.2.2.1 d.2.2.2.2.1 d.2.2.2.2.2.1 d.2.2.2.2.2.2.1 d.2.2.2.2.2.2.2.1 d.2.2.2.2.2.2.2.2.1)

/-! ### giro/giroref13.Put -/
noncomputable def E5q : Env := ⟨Proofs.Try.prog, fun _ => false, sumsOf [R1q, R3q, R4q]⟩
def A5q : Notes := ⟨[], []⟩
theorem Eo5q : EnvOK E5q := ⟨eqOK_none, sumsOf_ok (List.forall_mem_cons.2 ⟨Ro1q, List.forall_mem_cons.2 ⟨Ro3q, List.forall_mem_cons.2 ⟨Ro4q, List.forall_mem_nil _⟩⟩⟩)⟩
theorem El5q : SumsLocal E5q.sums := sumsOf_local (List.forall_mem_cons.2 ⟨Rl1q, List.forall_mem_cons.2 ⟨Rl3q, List.forall_mem_cons.2 ⟨Rl4q, List.forall_mem_nil _⟩⟩⟩)
def as5q : List AS := [.c (.dat true y7q), .agg [.int .i64, .int .i64, .int .i64, .int .i64, .int .i64, .int .i64, .int .i64]]
def rs5q : RS := .tup [(false, [.fro y7q]), (false, [.int .i64])]
def pk5q : (List K1q) × Int → RL rs5q.cells := fun x => (x.1, x.2, ())
def up5q : RL rs5q.cells → (List K1q) × Int := fun d => (d.1, d.2.1)
def R5q : Nat × Entry := (47, fun k nm args h => entry as5q rs5q (fun d => giroref13_Put k d.1 d.2.1 d.2.2.1 d.2.2.2.1 d.2.2.2.2.1 d.2.2.2.2.2.1 d.2.2.2.2.2.2.1 d.2.2.2.2.2.2.2.1) pk5q nm args h)
theorem ev5q (k : Nat) (d : AD as5q) : evF E5q A5q k 1000 0 Proofs.Try.f47 (absArgs as5q d).1 (absArgs as5q d).2 (outM rs5q up5q) = giroref13_Put k d.1 d.2.1 d.2.2.1 d.2.2.2.1 d.2.2.2.2.1 d.2.2.2.2.2.1 d.2.2.2.2.2.2.1 d.2.2.2.2.2.2.2.1 := by
  obtain ⟨_, _, _, _, _, _, _, _, _⟩ := d
  kernel_rfl
theorem Ro5q : EntryOK Proofs.Try.prog R5q := fun k _ _ _ _ _ hy =>
  entry_sound (unpack := up5q) (A := A5q) (k := k) (pre := 1000) (na := 0) (E := E5q) Eo5q El5q mixed_orders (f := 47) (fn := Proofs.Try.f47) (by kernel_rfl) (body_loops (loopsOK_none (by kernel_rfl))) (enters (fn := Proofs.Try.f47) (by kernel_rfl) (by kernel_rfl) (by kernel_rfl)) (fun _ => rfl) (ev5q k) hy
theorem Rl5q : EntryLocal R5q.2 := entry_local (S := fun k (d : AD as5q) => giroref13_Put k d.1 d.2.1 d.2.2.1 d.2.2.2.1 d.2.2.2.2.1 d.2.2.2.2.2.1 d.2.2.2.2.2.2.1 d.2.2.2.2.2.2.2.1)

/-! ### giro/pay.Ready -/
noncomputable def E7q : Env := ⟨Proofs.Try.prog, fun _ => false, sumsOf []⟩
def A7q : Notes := ⟨[], []⟩
theorem Eo7q : EnvOK E7q := ⟨eqOK_none, sumsOf_ok (List.forall_mem_nil _)⟩
theorem El7q : SumsLocal E7q.sums := sumsOf_local (List.forall_mem_nil _)
def as7q : List AS := [.agg [.int .i64, .int .i64, .int .i64, .int .i64, .int .i64, .int .i64, .int .i64], .c (.int .i64)]
def rs7q : RS := .c (.bool)
def pk7q : Bool → RL rs7q.cells := fun x => (x, ())
def up7q : RL rs7q.cells → Bool := fun d => d.1
def R7q : Nat × Entry := (85, fun k nm args h => entry as7q rs7q (fun d => pay_Ready k d.1 d.2.1 d.2.2.1 d.2.2.2.1 d.2.2.2.2.1 d.2.2.2.2.2.1 d.2.2.2.2.2.2.1 d.2.2.2.2.2.2.2.1) pk7q nm args h)
theorem ev7q (k : Nat) (d : AD as7q) : evF E7q A7q k 1000 0 Proofs.Try.f85 (absArgs as7q d).1 (absArgs as7q d).2 (outM rs7q up7q) = pay_Ready k d.1 d.2.1 d.2.2.1 d.2.2.2.1 d.2.2.2.2.1 d.2.2.2.2.2.1 d.2.2.2.2.2.2.1 d.2.2.2.2.2.2.2.1 := by
  obtain ⟨_, _, _, _, _, _, _, _, _⟩ := d
  kernel_rfl
theorem Ro7q : EntryOK Proofs.Try.prog R7q := fun k _ _ _ _ _ hy =>
  entry_sound (unpack := up7q) (A := A7q) (k := k) (pre := 1000) (na := 0) (E := E7q) Eo7q El7q mixed_orders (f := 85) (fn := Proofs.Try.f85) (by kernel_rfl) (body_loops (loopsOK_none (by kernel_rfl))) (enters (fn := Proofs.Try.f85) (by kernel_rfl) (by kernel_rfl) (by kernel_rfl)) (fun _ => rfl) (ev7q k) hy
theorem Rl7q : EntryLocal R7q.2 := entry_local (S := fun k (d : AD as7q) => pay_Ready k d.1 d.2.1 d.2.2.1 d.2.2.2.1 d.2.2.2.2.1 d.2.2.2.2.2.1 d.2.2.2.2.2.2.1 d.2.2.2.2.2.2.2.1)

/-! ### giro/view.Ready$1 -/
noncomputable def E8q : Env := ⟨Proofs.Try.prog, fun _ => false, sumsOf [R7q]⟩
def A8q : Notes := ⟨[], []⟩
theorem Eo8q : EnvOK E8q := ⟨eqOK_none, sumsOf_ok (List.forall_mem_cons.2 ⟨Ro7q, List.forall_mem_nil _⟩)⟩
theorem El8q : SumsLocal E8q.sums := sumsOf_local (List.forall_mem_cons.2 ⟨Rl7q, List.forall_mem_nil _⟩)
def as8q : List AS := [.agg [.int .i64, .int .i64, .int .i64, .int .i64, .int .i64, .int .i64, .int .i64], .ptr [.int .i64]]
def rs8q : RS := .c (.bool)
def pk8q : Bool → RL rs8q.cells := fun x => (x, ())
def up8q : RL rs8q.cells → Bool := fun d => d.1
def R8q : Nat × Entry := (84, fun k nm args h => entry as8q rs8q (fun d => view_Ready_fn1 k d.1 d.2.1 d.2.2.1 d.2.2.2.1 d.2.2.2.2.1 d.2.2.2.2.2.1 d.2.2.2.2.2.2.1 d.2.2.2.2.2.2.2.1) pk8q nm args h)
theorem ev8q (k : Nat) (d : AD as8q) : evF E8q A8q k 1000 0 Proofs.Try.f84 (absArgs as8q d).1 (absArgs as8q d).2 (outM rs8q up8q) = view_Ready_fn1 k d.1 d.2.1 d.2.2.1 d.2.2.2.1 d.2.2.2.2.1 d.2.2.2.2.2.1 d.2.2.2.2.2.2.1 d.2.2.2.2.2.2.2.1 := by
  obtain ⟨_, _, _, _, _, _, _, _, _⟩ := d
  kernel_rfl
theorem Ro8q : EntryOK Proofs.Try.prog R8q := fun k _ _ _ _ _ hy =>
  entry_sound (unpack := up8q) (A := A8q) (k := k) (pre := 1000) (na := 0) (E := E8q) Eo8q El8q mixed_orders (f := 84) (fn := Proofs.Try.f84) (by kernel_rfl) (body_loops (loopsOK_none (by kernel_rfl))) (enters (fn := Proofs.Try.f84) (by kernel_rfl) (by kernel_rfl) (by kernel_rfl)) (fun _ => rfl) (ev8q k) hy
theorem Rl8q : EntryLocal R8q.2 := entry_local (S := fun k (d : AD as8q) => view_Ready_fn1 k d.1 d.2.1 d.2.2.1 d.2.2.2.1 d.2.2.2.2.1 d.2.2.2.2.2.1 d.2.2.2.2.2.2.1 d.2.2.2.2.2.2.2.1)

/-! ### giro/view.all -/
noncomputable def E9q : Env := ⟨Proofs.Try.prog, fun _ => false, sumsOf [R8q]⟩
def I9_0q : Spec := ⟨[(1, .c (.lit (.fn 84 [1001000]))), (5, .c (.lit (.osl 1001001 none))), (8, .c (.dat false y7q)), (9, .c (.int .i64)), (10, .c (.int .i64))], [.robox [.int .i64], .arr true y7q], [(5, none, y7q, false)]⟩
def X0_9_0q : Spec := ⟨[(5, .c (.lit (.osl 1001000 none)))], [.arr true y7q], []⟩
def O9_0q : List (Ex × Spec) := [(.exit 0, X0_9_0q)]
abbrev Z9_0q : Type := List K1q
def c9_0q (f : List K1q → Int → Int → Int → List K1q → Option Z9_0q) (d : I9_0q.den) : Option Z9_0q := f d.1.2.2.1.1 d.1.2.2.2.1.1 d.1.2.2.2.2.1.1 d.2.1.1 d.2.2.1
def T9_0q : OutD O9_0q → Z9_0q := fun d => d.2.1
def e9_0q (base : Nat) (x : Z9_0q) (R : Type) (K : Ex → St → Option R) : Option R := K (.exit 0) (stOf base X0_9_0q (((), ()), (x, ())))
def L9_0q : LoopSum := ⟨I9_0q, O9_0q, Z9_0q, fun k d => c9_0q (view_all__view_Ready_fn1_L0 k k) d, e9_0q⟩
def A9q : Notes := ⟨[], [(3, L9_0q)]⟩
theorem Eo9q : EnvOK E9q := ⟨eqOK_none, sumsOf_ok (List.forall_mem_cons.2 ⟨Ro8q, List.forall_mem_nil _⟩)⟩
theorem El9q : SumsLocal E9q.sums := sumsOf_local (List.forall_mem_cons.2 ⟨Rl8q, List.forall_mem_nil _⟩)
theorem st9_0q (k : Nat) (rec : List K1q → Int → Int → Int → List K1q → Option Z9_0q) (d : I9_0q.den) : c9_0q (view_all__view_Ready_fn1_L0b k rec) d = evC E9q A9q k 1000 0 23 (loopAt (bodyOf Proofs.Try.f83) 0) (stOf (1000 + loopBase) I9_0q d) (roundK 1000 I9_0q O9_0q T9_0q (c9_0q rec)) := by
  obtain ⟨⟨_, _, ⟨_, _⟩, ⟨_, _⟩, ⟨_, _⟩, _⟩, ⟨⟨_, _⟩, _, _⟩⟩ := d
  kernel_rfl
theorem lk9_0q : LoopOK Proofs.Try.prog 1000 0 23 (loopAt (bodyOf Proofs.Try.f83) 0) L9_0q :=
  loop_sound (A := A9q) (inS := I9_0q) (outs := O9_0q) Eo9q El9q mixed_orders (loopsOK_none (by kernel_rfl)) T9_0q e9_0q (fun _ _ _ => rfl) (fun k n d => c9_0q (view_all__view_Ready_fn1_L0 k n) d) (fun _ _ => rfl) (fun k n d => st9_0q k (view_all__view_Ready_fn1_L0 k n) d)
def as9q : List AS := [.c (.dat false y7q), .fn 84 [[.int .i64]]]
def rs9q : RS := .c (.own y7q)
def pk9q : List K1q → RL rs9q.cells := fun x => (x, ())
def up9q : RL rs9q.cells → List K1q := fun d => d.1
def R9q : Nat × Entry := (83, fun k nm args h => entry as9q rs9q (fun d => view_all__view_Ready_fn1 k d.1 d.2.1) pk9q nm args h)
theorem ev9q (k : Nat) (d : AD as9q) : evF E9q A9q k 1000 0 Proofs.Try.f83 (absArgs as9q d).1 (absArgs as9q d).2 (outM rs9q up9q) = view_all__view_Ready_fn1 k d.1 d.2.1 := by
  obtain ⟨_, _, _⟩ := d
  kernel_rfl
theorem Ro9q : EntryOK Proofs.Try.prog R9q := fun k _ _ _ _ _ hy =>
  entry_sound (unpack := up9q) (A := A9q) (k := k) (pre := 1000) (na := 0) (E := E9q) Eo9q El9q mixed_orders (f := 83) (fn := Proofs.Try.f83) (by kernel_rfl) (body_loops (loopsOK_of (n := 1) (by kernel_rfl) fun i hi => match i, hi with | 0, _ => ⟨L9_0q, by kernel_rfl, lk9_0q⟩ | i + 1, hi => absurd hi (by omega))) (enters (fn := Proofs.Try.f83) (by kernel_rfl) (by kernel_rfl) (by kernel_rfl)) (fun _ => rfl) (ev9q k) hy
theorem Rl9q : EntryLocal R9q.2 := entry_local (S := fun k (d : AD as9q) => view_all__view_Ready_fn1 k d.1 d.2.1)

/-! ### giro/view.Ready -/
noncomputable def E10q : Env := ⟨Proofs.Try.prog, fun _ => false, sumsOf [R9q]⟩
def A10q : Notes := ⟨[], []⟩
theorem Eo10q : EnvOK E10q := ⟨eqOK_none, sumsOf_ok (List.forall_mem_cons.2 ⟨Ro9q, List.forall_mem_nil _⟩)⟩
theorem El10q : SumsLocal E10q.sums := sumsOf_local (List.forall_mem_cons.2 ⟨Rl9q, List.forall_mem_nil _⟩)
def as10q : List AS := [.c (.dat false y7q), .c (.int .i64)]
def rs10q : RS := .c (.own y7q)
def pk10q : List K1q → RL rs10q.cells := fun x => (x, ())
def up10q : RL rs10q.cells → List K1q := fun d => d.1
def R10q : Nat × Entry := (48, fun k nm args h => entry as10q rs10q (fun d => view_Ready k d.1 d.2.1) pk10q nm args h)
theorem ev10q (k : Nat) (d : AD as10q) : evF E10q A10q k 1000 0 Proofs.Try.f48 (absArgs as10q d).1 (absArgs as10q d).2 (outM rs10q up10q) = view_Ready k d.1 d.2.1 := by
  obtain ⟨_, _, _⟩ := d
  kernel_rfl
theorem Ro10q : EntryOK Proofs.Try.prog R10q := fun k _ _ _ _ _ hy =>
  entry_sound (unpack := up10q) (A := A10q) (k := k) (pre := 1000) (na := 0) (E := E10q) Eo10q El10q mixed_orders (f := 48) (fn := Proofs.Try.f48) (by kernel_rfl) (body_loops (loopsOK_none (by kernel_rfl))) (enters (fn := Proofs.Try.f48) (by kernel_rfl) (by kernel_rfl) (by kernel_rfl)) (fun _ => rfl) (ev10q k) hy
theorem Rl10q : EntryLocal R10q.2 := entry_local (S := fun k (d : AD as10q) => view_Ready k d.1 d.2.1)

/-! ### giro/view.Of$1 -/
noncomputable def E11q : Env := ⟨Proofs.Try.prog, fun _ => false, sumsOf []⟩
def A11q : Notes := ⟨[], []⟩
theorem Eo11q : EnvOK E11q := ⟨eqOK_none, sumsOf_ok (List.forall_mem_nil _)⟩
theorem El11q : SumsLocal E11q.sums := sumsOf_local (List.forall_mem_nil _)
def as11q : List AS := [.agg [.int .i64, .int .i64, .int .i64, .int .i64, .int .i64, .int .i64, .int .i64], .ptr [.int .i64]]
def rs11q : RS := .c (.bool)
def pk11q : Bool → RL rs11q.cells := fun x => (x, ())
def up11q : RL rs11q.cells → Bool := fun d => d.1
def R11q : Nat × Entry := (86, fun k nm args h => entry as11q rs11q (fun d => view_Of_fn1 k d.1 d.2.1 d.2.2.1 d.2.2.2.1 d.2.2.2.2.1 d.2.2.2.2.2.1 d.2.2.2.2.2.2.1 d.2.2.2.2.2.2.2.1) pk11q nm args h)
theorem ev11q (k : Nat) (d : AD as11q) : evF E11q A11q k 1000 0 Proofs.Try.f86 (absArgs as11q d).1 (absArgs as11q d).2 (outM rs11q up11q) = view_Of_fn1 k d.1 d.2.1 d.2.2.1 d.2.2.2.1 d.2.2.2.2.1 d.2.2.2.2.2.1 d.2.2.2.2.2.2.1 d.2.2.2.2.2.2.2.1 := by
  obtain ⟨_, _, _, _, _, _, _, _, _⟩ := d
  kernel_rfl
theorem Ro11q : EntryOK Proofs.Try.prog R11q := fun k _ _ _ _ _ hy =>
  entry_sound (unpack := up11q) (A := A11q) (k := k) (pre := 1000) (na := 0) (E := E11q) Eo11q El11q mixed_orders (f := 86) (fn := Proofs.Try.f86) (by kernel_rfl) (body_loops (loopsOK_none (by kernel_rfl))) (enters (fn := Proofs.Try.f86) (by kernel_rfl) (by kernel_rfl) (by kernel_rfl)) (fun _ => rfl) (ev11q k) hy
theorem Rl11q : EntryLocal R11q.2 := entry_local (S := fun k (d : AD as11q) => view_Of_fn1 k d.1 d.2.1 d.2.2.1 d.2.2.2.1 d.2.2.2.2.1 d.2.2.2.2.2.1 d.2.2.2.2.2.2.1 d.2.2.2.2.2.2.2.1)

/-! ### giro/view.all -/
noncomputable def E12q : Env := ⟨Proofs.Try.prog, fun _ => false, sumsOf [R11q]⟩
def I12_0q : Spec := ⟨[(1, .c (.lit (.fn 86 [1001000]))), (5, .c (.lit (.osl 1001001 none))), (8, .c (.dat false y7q)), (9, .c (.int .i64)), (10, .c (.int .i64))], [.robox [.int .i64], .arr true y7q], [(5, none, y7q, false)]⟩
def X0_12_0q : Spec := ⟨[(5, .c (.lit (.osl 1001000 none)))], [.arr true y7q], []⟩
def O12_0q : List (Ex × Spec) := [(.exit 0, X0_12_0q)]
abbrev Z12_0q : Type := List K1q
def c12_0q (f : List K1q → Int → Int → Int → List K1q → Option Z12_0q) (d : I12_0q.den) : Option Z12_0q := f d.1.2.2.1.1 d.1.2.2.2.1.1 d.1.2.2.2.2.1.1 d.2.1.1 d.2.2.1
def T12_0q : OutD O12_0q → Z12_0q := fun d => d.2.1
def e12_0q (base : Nat) (x : Z12_0q) (R : Type) (K : Ex → St → Option R) : Option R := K (.exit 0) (stOf base X0_12_0q (((), ()), (x, ())))
def L12_0q : LoopSum := ⟨I12_0q, O12_0q, Z12_0q, fun k d => c12_0q (view_all__view_Of_fn1_L0 k k) d, e12_0q⟩
def A12q : Notes := ⟨[], [(3, L12_0q)]⟩
theorem Eo12q : EnvOK E12q := ⟨eqOK_none, sumsOf_ok (List.forall_mem_cons.2 ⟨Ro11q, List.forall_mem_nil _⟩)⟩
theorem El12q : SumsLocal E12q.sums := sumsOf_local (List.forall_mem_cons.2 ⟨Rl11q, List.forall_mem_nil _⟩)
theorem st12_0q (k : Nat) (rec : List K1q → Int → Int → Int → List K1q → Option Z12_0q) (d : I12_0q.den) : c12_0q (view_all__view_Of_fn1_L0b k rec) d = evC E12q A12q k 1000 0 23 (loopAt (bodyOf Proofs.Try.f83) 0) (stOf (1000 + loopBase) I12_0q d) (roundK 1000 I12_0q O12_0q T12_0q (c12_0q rec)) := by
  obtain ⟨⟨_, _, ⟨_, _⟩, ⟨_, _⟩, ⟨_, _⟩, _⟩, ⟨⟨_, _⟩, _, _⟩⟩ := d
  kernel_rfl
theorem lk12_0q : LoopOK Proofs.Try.prog 1000 0 23 (loopAt (bodyOf Proofs.Try.f83) 0) L12_0q :=
  loop_sound (A := A12q) (inS := I12_0q) (outs := O12_0q) Eo12q El12q mixed_orders (loopsOK_none (by kernel_rfl)) T12_0q e12_0q (fun _ _ _ => rfl) (fun k n d => c12_0q (view_all__view_Of_fn1_L0 k n) d) (fun _ _ => rfl) (fun k n d => st12_0q k (view_all__view_Of_fn1_L0 k n) d)
def as12q : List AS := [.c (.dat false y7q), .fn 86 [[.int .i64]]]
def rs12q : RS := .c (.own y7q)
def pk12q : List K1q → RL rs12q.cells := fun x => (x, ())
def up12q : RL rs12q.cells → List K1q := fun d => d.1
def R12q : Nat × Entry := (83, fun k nm args h => entry as12q rs12q (fun d => view_all__view_Of_fn1 k d.1 d.2.1) pk12q nm args h)
theorem ev12q (k : Nat) (d : AD as12q) : evF E12q A12q k 1000 0 Proofs.Try.f83 (absArgs as12q d).1 (absArgs as12q d).2 (outM rs12q up12q) = view_all__view_Of_fn1 k d.1 d.2.1 := by
  obtain ⟨_, _, _⟩ := d
  kernel_rfl
theorem Ro12q : EntryOK Proofs.Try.prog R12q := fun k _ _ _ _ _ hy =>
  entry_sound (unpack := up12q) (A := A12q) (k := k) (pre := 1000) (na := 0) (E := E12q) Eo12q El12q mixed_orders (f := 83) (fn := Proofs.Try.f83) (by kernel_rfl) (body_loops (loopsOK_of (n := 1) (by kernel_rfl) fun i hi => match i, hi with | 0, _ => ⟨L12_0q, by kernel_rfl, lk12_0q⟩ | i + 1, hi => absurd hi (by omega))) (enters (fn := Proofs.Try.f83) (by kernel_rfl) (by kernel_rfl) (by kernel_rfl)) (fun _ => rfl) (ev12q k) hy
theorem Rl12q : EntryLocal R12q.2 := entry_local (S := fun k (d : AD as12q) => view_all__view_Of_fn1 k d.1 d.2.1)

/-! ### giro/view.Of -/
noncomputable def E13q : Env := ⟨Proofs.Try.prog, fun _ => false, sumsOf [R12q]⟩
def A13q : Notes := ⟨[], []⟩
theorem Eo13q : EnvOK E13q := ⟨eqOK_none, sumsOf_ok (List.forall_mem_cons.2 ⟨Ro12q, List.forall_mem_nil _⟩)⟩
theorem El13q : SumsLocal E13q.sums := sumsOf_local (List.forall_mem_cons.2 ⟨Rl12q, List.forall_mem_nil _⟩)
def as13q : List AS := [.c (.dat false y7q), .c (.int .i64)]
def rs13q : RS := .c (.own y7q)
def pk13q : List K1q → RL rs13q.cells := fun x => (x, ())
def up13q : RL rs13q.cells → List K1q := fun d => d.1
def R13q : Nat × Entry := (49, fun k nm args h => entry as13q rs13q (fun d => view_Of k d.1 d.2.1) pk13q nm args h)
theorem ev13q (k : Nat) (d : AD as13q) : evF E13q A13q k 1000 0 Proofs.Try.f49 (absArgs as13q d).1 (absArgs as13q d).2 (outM rs13q up13q) = view_Of k d.1 d.2.1 := by
  obtain ⟨_, _, _⟩ := d
  kernel_rfl
theorem Ro13q : EntryOK Proofs.Try.prog R13q := fun k _ _ _ _ _ hy =>
  entry_sound (unpack := up13q) (A := A13q) (k := k) (pre := 1000) (na := 0) (E := E13q) Eo13q El13q mixed_orders (f := 49) (fn := Proofs.Try.f49) (by kernel_rfl) (body_loops (loopsOK_none (by kernel_rfl))) (enters (fn := Proofs.Try.f49) (by kernel_rfl) (by kernel_rfl) (by kernel_rfl)) (fun _ => rfl) (ev13q k) hy
theorem Rl13q : EntryLocal R13q.2 := entry_local (S := fun k (d : AD as13q) => view_Of k d.1 d.2.1)

/-! ### slices.Clone[[]int,int] -/
noncomputable def E14q : Env := ⟨Proofs.Try.prog, fun _ => false, sumsOf []⟩
def A14q : Notes := ⟨[], []⟩
theorem Eo14q : EnvOK E14q := ⟨eqOK_none, sumsOf_ok (List.forall_mem_nil _)⟩
theorem El14q : SumsLocal E14q.sums := sumsOf_local (List.forall_mem_nil _)
def as14q : List AS := [.c (.dat false (.int .i64))]
def rs14q : RS := .c (.own (.int .i64))
def pk14q : List Int → RL rs14q.cells := fun x => (x, ())
def up14q : RL rs14q.cells → List Int := fun d => d.1
def R14q : Nat × Entry := (91, fun k nm args h => entry as14q rs14q (fun d => slices_Clone_int k d.1) pk14q nm args h)
theorem nil14q (k : Nat) : evF E14q A14q k 1000 0 Proofs.Try.f91 [.c .nsl] (boxHp []) (outM rs14q up14q) = slices_Clone_int k [] := by kernel_rfl
theorem ev14q (k : Nat) (xs : List Int) : evF E14q A14q k 1000 0 Proofs.Try.f91 [.c (.nfl false (.int .i64) xs)] (boxHp []) (outM rs14q up14q) = slices_Clone_int k xs := by kernel_rfl
theorem Ro14q : EntryOK Proofs.Try.prog R14q := fun k _ _ _ _ _ hy =>
  entry_nil (t := (.int .i64)) (S := fun xs => slices_Clone_int k xs) (unpack := up14q) (A := A14q) (k := k) (pre := 1000) (na := 0) (E := E14q) Eo14q El14q mixed_orders (f := 91) (fn := Proofs.Try.f91) (by kernel_rfl) (body_loops (loopsOK_none (by kernel_rfl))) (enters (fn := Proofs.Try.f91) (by kernel_rfl) (by kernel_rfl) (by kernel_rfl)) (fun _ => rfl) (fun x hx => (nil14q k).trans hx) (fun xs x hx => (ev14q k xs).trans hx) hy
theorem Rl14q : EntryLocal R14q.2 := entry_local (S := fun k (d : AD as14q) => slices_Clone_int k d.1)

/-! ### giro/view.Heads$1 -/
noncomputable def E15q : Env := ⟨Proofs.Try.prog, fun _ => false, sumsOf []⟩
def A15q : Notes := ⟨[], []⟩
theorem Eo15q : EnvOK E15q := ⟨eqOK_none, sumsOf_ok (List.forall_mem_nil _)⟩
theorem El15q : SumsLocal E15q.sums := sumsOf_local (List.forall_mem_nil _)
def as15q : List AX := [.agg [.int .i64, .int .i64, .int .i64, .int .i64, .int .i64, .int .i64, .int .i64], .ptr true [.own (.int .i64)]]
def rs15q : RS := .c (.bool)
def os15q : List (List RC) := [[.own (.int .i64)]]
def pk15q : Bool × (List Int) → RL (rs15q.cells ++ os15q.flatten) := fun x => (x.1, x.2, ())
def up15q : RL (rs15q.cells ++ os15q.flatten) → Bool × (List Int) := fun d => (d.1, d.2.1)
def R15q : Nat × Entry := (92, fun k nm args h => entryX as15q rs15q os15q (fun d => view_Heads_fn1 k d.1 d.2.1 d.2.2.1 d.2.2.2.1 d.2.2.2.2.1 d.2.2.2.2.2.1 d.2.2.2.2.2.2.1 d.2.2.2.2.2.2.2.1) pk15q nm args h)
theorem ev15q (k : Nat) (d : XD as15q) : evF E15q A15q k 1000 2 Proofs.Try.f92 (absArgsX as15q d).1 (absArgsX as15q d).2 (outXM as15q rs15q os15q up15q) = view_Heads_fn1 k d.1 d.2.1 d.2.2.1 d.2.2.2.1 d.2.2.2.2.1 d.2.2.2.2.2.1 d.2.2.2.2.2.2.1 d.2.2.2.2.2.2.2.1 := by
  obtain ⟨_, _, _, _, _, _, _, _, _⟩ := d
  kernel_rfl
theorem Ro15q : EntryOK Proofs.Try.prog R15q := fun k _ _ _ _ _ hy =>
  entryX_sound (unpack := up15q) (A := A15q) (k := k) (pre := 1000) (na := 2) (E := E15q) Eo15q El15q mixed_orders (f := 92) (fn := Proofs.Try.f92) (by kernel_rfl) (body_loops (loopsOK_none (by kernel_rfl))) (enters (fn := Proofs.Try.f92) (by kernel_rfl) (by kernel_rfl) (by kernel_rfl)) (fun _ => rfl) (by kernel_rfl) (ev15q k) hy
theorem Rl15q : EntryLocal R15q.2 := entryX_local (S := fun k (d : XD as15q) => view_Heads_fn1 k d.1 d.2.1 d.2.2.1 d.2.2.2.1 d.2.2.2.2.1 d.2.2.2.2.2.1 d.2.2.2.2.2.2.1 d.2.2.2.2.2.2.2.1)

/-! ### giro/view.all -/
noncomputable def E16q : Env := ⟨Proofs.Try.prog, fun _ => false, sumsOf [R15q]⟩
def I16_0q : Spec := ⟨[(1, .c (.lit (.fn 92 [1001000]))), (5, .c (.lit (.osl 1001002 none))), (8, .c (.dat false y7q)), (9, .c (.int .i64)), (10, .c (.int .i64))], [.box true [.lit (.osl 1001001 none)], .arr true (.int .i64), .arr true y7q], [(5, none, y7q, false)]⟩
def X0_16_0q : Spec := ⟨[(1, .c (.lit (.fn 92 [1001000]))), (5, .c (.lit (.osl 1001002 none)))], [.box true [.lit (.osl 1001001 none)], .arr true (.int .i64), .arr true y7q], []⟩
def O16_0q : List (Ex × Spec) := [(.exit 0, X0_16_0q)]
abbrev Z16_0q : Type := (List Int) × (List K1q)
def c16_0q (f : List K1q → Int → Int → List Int → List K1q → Option Z16_0q) (d : I16_0q.den) : Option Z16_0q := f d.1.2.2.1.1 d.1.2.2.2.1.1 d.1.2.2.2.2.1.1 d.2.2.1 d.2.2.2.1
def T16_0q : OutD O16_0q → Z16_0q := fun d => (d.2.2.1, d.2.2.2.1)
def e16_0q (base : Nat) (x : Z16_0q) (R : Type) (K : Ex → St → Option R) : Option R := K (.exit 0) (stOf base X0_16_0q (((), (), ()), ((), x.1, x.2, ())))
def L16_0q : LoopSum := ⟨I16_0q, O16_0q, Z16_0q, fun k d => c16_0q (view_all__view_Heads_fn1_L0 k k) d, e16_0q⟩
def A16q : Notes := ⟨[], [(3, L16_0q)]⟩
theorem Eo16q : EnvOK E16q := ⟨eqOK_none, sumsOf_ok (List.forall_mem_cons.2 ⟨Ro15q, List.forall_mem_nil _⟩)⟩
theorem El16q : SumsLocal E16q.sums := sumsOf_local (List.forall_mem_cons.2 ⟨Rl15q, List.forall_mem_nil _⟩)
theorem st16_0q (k : Nat) (rec : List K1q → Int → Int → List Int → List K1q → Option Z16_0q) (d : I16_0q.den) : c16_0q (view_all__view_Heads_fn1_L0b k rec) d = evC E16q A16q k 1000 2 23 (loopAt (bodyOf Proofs.Try.f83) 0) (stOf (1000 + loopBase) I16_0q d) (roundK 1000 I16_0q O16_0q T16_0q (c16_0q rec)) := by
  obtain ⟨⟨_, _, ⟨_, _⟩, ⟨_, _⟩, ⟨_, _⟩, _⟩, ⟨_, _, _, _⟩⟩ := d
  kernel_rfl
theorem lk16_0q : LoopOK Proofs.Try.prog 1000 2 23 (loopAt (bodyOf Proofs.Try.f83) 0) L16_0q :=
  loop_sound (A := A16q) (inS := I16_0q) (outs := O16_0q) Eo16q El16q mixed_orders (loopsOK_none (by kernel_rfl)) T16_0q e16_0q (fun _ _ _ => rfl) (fun k n d => c16_0q (view_all__view_Heads_fn1_L0 k n) d) (fun _ _ => rfl) (fun k n d => st16_0q k (view_all__view_Heads_fn1_L0 k n) d)
def as16q : List AX := [.c (.p (.dat false y7q)), .fn 92 [(true, [.own (.int .i64)])]]
def rs16q : RS := .c (.own y7q)
def os16q : List (List RC) := [[.own (.int .i64)]]
def pk16q : (List K1q) × (List Int) → RL (rs16q.cells ++ os16q.flatten) := fun x => (x.1, x.2, ())
def up16q : RL (rs16q.cells ++ os16q.flatten) → (List K1q) × (List Int) := fun d => (d.1, d.2.1)
def R16q : Nat × Entry := (83, fun k nm args h => entryX as16q rs16q os16q (fun d => view_all__view_Heads_fn1 k d.1 d.2.1) pk16q nm args h)
theorem ev16q (k : Nat) (d : XD as16q) : evF E16q A16q k 1000 2 Proofs.Try.f83 (absArgsX as16q d).1 (absArgsX as16q d).2 (outXM as16q rs16q os16q up16q) = view_all__view_Heads_fn1 k d.1 d.2.1 := by
  obtain ⟨_, _, _⟩ := d
  kernel_rfl
theorem Ro16q : EntryOK Proofs.Try.prog R16q := fun k _ _ _ _ _ hy =>
  entryX_sound (unpack := up16q) (A := A16q) (k := k) (pre := 1000) (na := 2) (E := E16q) Eo16q El16q mixed_orders (f := 83) (fn := Proofs.Try.f83) (by kernel_rfl) (body_loops (loopsOK_of (n := 1) (by kernel_rfl) fun i hi => match i, hi with | 0, _ => ⟨L16_0q, by kernel_rfl, lk16_0q⟩ | i + 1, hi => absurd hi (by omega))) (enters (fn := Proofs.Try.f83) (by kernel_rfl) (by kernel_rfl) (by kernel_rfl)) (fun _ => rfl) (by kernel_rfl) (ev16q k) hy
theorem Rl16q : EntryLocal R16q.2 := entryX_local (S := fun k (d : XD as16q) => view_all__view_Heads_fn1 k d.1 d.2.1)

/-! ### giro/view.Heads -/
noncomputable def E17q : Env := ⟨Proofs.Try.prog, fun _ => false, sumsOf [R14q, R16q]⟩
def A17q : Notes := ⟨[], []⟩
theorem Eo17q : EnvOK E17q := ⟨eqOK_none, sumsOf_ok (List.forall_mem_cons.2 ⟨Ro14q, List.forall_mem_cons.2 ⟨Ro16q, List.forall_mem_nil _⟩⟩)⟩
theorem El17q : SumsLocal E17q.sums := sumsOf_local (List.forall_mem_cons.2 ⟨Rl14q, List.forall_mem_cons.2 ⟨Rl16q, List.forall_mem_nil _⟩⟩)
def as17q : List AS := [.c (.dat false y7q), .c (.dat false (.int .i64))]
def rs17q : RS := .c (.own y7q)
def pk17q : List K1q → RL rs17q.cells := fun x => (x, ())
def up17q : RL rs17q.cells → List K1q := fun d => d.1
def R17q : Nat × Entry := (51, fun k nm args h => entry as17q rs17q (fun d => view_Heads k d.1 d.2.1) pk17q nm args h)
theorem ev17q (k : Nat) (d : AD as17q) : evF E17q A17q k 1000 0 Proofs.Try.f51 (absArgs as17q d).1 (absArgs as17q d).2 (outM rs17q up17q) = view_Heads k d.1 d.2.1 := by
  obtain ⟨_, _, _⟩ := d
  kernel_rfl
theorem Ro17q : EntryOK Proofs.Try.prog R17q := fun k _ _ _ _ _ hy =>
  entry_sound (unpack := up17q) (A := A17q) (k := k) (pre := 1000) (na := 0) (E := E17q) Eo17q El17q mixed_orders (f := 51) (fn := Proofs.Try.f51) (by kernel_rfl) (body_loops (loopsOK_none (by kernel_rfl))) (enters (fn := Proofs.Try.f51) (by kernel_rfl) (by kernel_rfl) (by kernel_rfl)) (fun _ => rfl) (ev17q k) hy
theorem Rl17q : EntryLocal R17q.2 := entry_local (S := fun k (d : AD as17q) => view_Heads k d.1 d.2.1)

/-! ### giro/lim.isSize -/
noncomputable def E18q : Env := ⟨Proofs.Try.prog, fun _ => false, sumsOf []⟩
def A18q : Notes := ⟨[], []⟩
theorem Eo18q : EnvOK E18q := ⟨eqOK_none, sumsOf_ok (List.forall_mem_nil _)⟩
theorem El18q : SumsLocal E18q.sums := sumsOf_local (List.forall_mem_nil _)
def as18q : List AS := [.c (.int .i64)]
def rs18q : RS := .c (.bool)
def pk18q : Bool → RL rs18q.cells := fun x => (x, ())
def up18q : RL rs18q.cells → Bool := fun d => d.1
def R18q : Nat × Entry := (128, fun k nm args h => entry as18q rs18q (fun d => lim_isSize k d.1) pk18q nm args h)
theorem ev18q (k : Nat) (d : AD as18q) : evF E18q A18q k 1000 0 Proofs.Try.f128 (absArgs as18q d).1 (absArgs as18q d).2 (outM rs18q up18q) = lim_isSize k d.1 := by
  obtain ⟨_, _⟩ := d
  kernel_rfl
theorem Ro18q : EntryOK Proofs.Try.prog R18q := fun k _ _ _ _ _ hy =>
  entry_sound (unpack := up18q) (A := A18q) (k := k) (pre := 1000) (na := 0) (E := E18q) Eo18q El18q mixed_orders (f := 128) (fn := Proofs.Try.f128) (by kernel_rfl) (body_loops (loopsOK_none (by kernel_rfl))) (enters (fn := Proofs.Try.f128) (by kernel_rfl) (by kernel_rfl) (by kernel_rfl)) (fun _ => rfl) (ev18q k) hy
theorem Rl18q : EntryLocal R18q.2 := entry_local (S := fun k (d : AD as18q) => lim_isSize k d.1)

/-! ### giro/lim.Row -/
noncomputable def E19q : Env := ⟨Proofs.Try.prog, fun _ => false, sumsOf [R18q]⟩
def I19_0q : Spec := ⟨[(1, .c (.int .i64)), (5, .c (.lit (.osl 1001000 none))), (13, .c (.int .i64)), (14, .c (.int .i64))], [.arr true (.int .i64)], []⟩
def X0_19_0q : Spec := ⟨[(5, .c (.lit (.osl 1001000 none)))], [.arr true (.int .i64)], []⟩
def O19_0q : List (Ex × Spec) := [(.exit 0, X0_19_0q)]
abbrev Z19_0q : Type := List Int
def c19_0q (f : Int → Int → Int → List Int → Option Z19_0q) (d : I19_0q.den) : Option Z19_0q := f d.1.1.1 d.1.2.2.1.1 d.1.2.2.2.1.1 d.2.1
def T19_0q : OutD O19_0q → Z19_0q := fun d => d.2.1
def e19_0q (base : Nat) (x : Z19_0q) (R : Type) (K : Ex → St → Option R) : Option R := K (.exit 0) (stOf base X0_19_0q (((), ()), (x, ())))
def L19_0q : LoopSum := ⟨I19_0q, O19_0q, Z19_0q, fun k d => c19_0q (lim_Row_L0 k k) d, e19_0q⟩
def A19q : Notes := ⟨[], [(5, L19_0q)]⟩
theorem Eo19q : EnvOK E19q := ⟨eqOK_none, sumsOf_ok (List.forall_mem_cons.2 ⟨Ro18q, List.forall_mem_nil _⟩)⟩
theorem El19q : SumsLocal E19q.sums := sumsOf_local (List.forall_mem_cons.2 ⟨Rl18q, List.forall_mem_nil _⟩)
theorem st19_0q (k : Nat) (rec : Int → Int → Int → List Int → Option Z19_0q) (d : I19_0q.den) : c19_0q (lim_Row_L0b k rec) d = evC E19q A19q k 1000 0 23 (loopAt (bodyOf Proofs.Try.f107) 0) (stOf (1000 + loopBase) I19_0q d) (roundK 1000 I19_0q O19_0q T19_0q (c19_0q rec)) := by
  obtain ⟨⟨⟨_, _⟩, _, ⟨_, _⟩, ⟨_, _⟩, _⟩, ⟨_, _⟩⟩ := d
  kernel_rfl
theorem lk19_0q : LoopOK Proofs.Try.prog 1000 0 23 (loopAt (bodyOf Proofs.Try.f107) 0) L19_0q :=
  loop_sound (A := A19q) (inS := I19_0q) (outs := O19_0q) Eo19q El19q mixed_orders (loopsOK_none (by kernel_rfl)) T19_0q e19_0q (fun _ _ _ => rfl) (fun k n d => c19_0q (lim_Row_L0 k n) d) (fun _ _ => rfl) (fun k n d => st19_0q k (lim_Row_L0 k n) d)
def as19q : List AS := [.c (.int .i64), .c (.int .i64)]
def rs19q : RS := .c (.own (.int .i64))
def pk19q : List Int → RL rs19q.cells := fun x => (x, ())
def up19q : RL rs19q.cells → List Int := fun d => d.1
def R19q : Nat × Entry := (107, fun k nm args h => entry as19q rs19q (fun d => lim_Row k d.1 d.2.1) pk19q nm args h)
theorem ev19q (k : Nat) (d : AD as19q) : evF E19q A19q k 1000 0 Proofs.Try.f107 (absArgs as19q d).1 (absArgs as19q d).2 (outM rs19q up19q) = lim_Row k d.1 d.2.1 := by
  obtain ⟨_, _, _⟩ := d
  kernel_rfl
theorem Ro19q : EntryOK Proofs.Try.prog R19q := fun k _ _ _ _ _ hy =>
  entry_sound (unpack := up19q) (A := A19q) (k := k) (pre := 1000) (na := 0) (E := E19q) Eo19q El19q mixed_orders (f := 107) (fn := Proofs.Try.f107) (by kernel_rfl) (body_loops (loopsOK_of (n := 1) (by kernel_rfl) fun i hi => match i, hi with | 0, _ => ⟨L19_0q, by kernel_rfl, lk19_0q⟩ | i + 1, hi => absurd hi (by omega))) (enters (fn := Proofs.Try.f107) (by kernel_rfl) (by kernel_rfl) (by kernel_rfl)) (fun _ => rfl) (ev19q k) hy
theorem Rl19q : EntryLocal R19q.2 := entry_local (S := fun k (d : AD as19q) => lim_Row k d.1 d.2.1)

/-! ### giro/lim.Square -/
noncomputable def E20q : Env := ⟨Proofs.Try.prog, fun _ => false, sumsOf [R18q, R19q]⟩
def I20_0q : Spec := ⟨[(0, .c (.int .i64)), (1, .c (.int .i64)), (5, .c (.lit (.osl 1001000 none))), (13, .c (.int .i64)), (14, .c (.int .i64))], [.mat], []⟩
def X0_20_0q : Spec := ⟨[(5, .c (.lit (.osl 1001000 none)))], [.mat], []⟩
def O20_0q : List (Ex × Spec) := [(.exit 0, X0_20_0q)]
abbrev Z20_0q : Type := List (List Int)
def c20_0q (f : Int → Int → Int → Int → List (List Int) → Option Z20_0q) (d : I20_0q.den) : Option Z20_0q := f d.1.1.1 d.1.2.1.1 d.1.2.2.2.1.1 d.1.2.2.2.2.1.1 d.2.1
def T20_0q : OutD O20_0q → Z20_0q := fun d => d.2.1
def e20_0q (base : Nat) (x : Z20_0q) (R : Type) (K : Ex → St → Option R) : Option R := K (.exit 0) (stOf base X0_20_0q (((), ()), (x, ())))
def L20_0q : LoopSum := ⟨I20_0q, O20_0q, Z20_0q, fun k d => c20_0q (lim_Square_L0 k k) d, e20_0q⟩
def A20q : Notes := ⟨[11], [(5, L20_0q)]⟩
theorem Eo20q : EnvOK E20q := ⟨eqOK_none, sumsOf_ok (List.forall_mem_cons.2 ⟨Ro18q, List.forall_mem_cons.2 ⟨Ro19q, List.forall_mem_nil _⟩⟩)⟩
theorem El20q : SumsLocal E20q.sums := sumsOf_local (List.forall_mem_cons.2 ⟨Rl18q, List.forall_mem_cons.2 ⟨Rl19q, List.forall_mem_nil _⟩⟩)
theorem st20_0q (k : Nat) (rec : Int → Int → Int → Int → List (List Int) → Option Z20_0q) (d : I20_0q.den) : c20_0q (lim_Square_L0b k rec) d = evC E20q A20q k 1000 0 25 (loopAt (bodyOf Proofs.Try.f108) 0) (stOf (1000 + loopBase) I20_0q d) (roundK 1000 I20_0q O20_0q T20_0q (c20_0q rec)) := by
  obtain ⟨⟨⟨_, _⟩, ⟨_, _⟩, _, ⟨_, _⟩, ⟨_, _⟩, _⟩, ⟨_, _⟩⟩ := d
  kernel_rfl
theorem lk20_0q : LoopOK Proofs.Try.prog 1000 0 25 (loopAt (bodyOf Proofs.Try.f108) 0) L20_0q :=
  loop_sound (A := A20q) (inS := I20_0q) (outs := O20_0q) Eo20q El20q mixed_orders (loopsOK_none (by kernel_rfl)) T20_0q e20_0q (fun _ _ _ => rfl) (fun k n d => c20_0q (lim_Square_L0 k n) d) (fun _ _ => rfl) (fun k n d => st20_0q k (lim_Square_L0 k n) d)
def as20q : List AS := [.c (.int .i64), .c (.int .i64)]
def rs20q : RS := .c (.mat)
def pk20q : List (List Int) → RL rs20q.cells := fun x => (x, ())
def up20q : RL rs20q.cells → List (List Int) := fun d => d.1
def R20q : Nat × Entry := (108, fun k nm args h => entry as20q rs20q (fun d => lim_Square k d.1 d.2.1) pk20q nm args h)
theorem ev20q (k : Nat) (d : AD as20q) : evF E20q A20q k 1000 0 Proofs.Try.f108 (absArgs as20q d).1 (absArgs as20q d).2 (outM rs20q up20q) = lim_Square k d.1 d.2.1 := by
  obtain ⟨_, _, _⟩ := d
  kernel_rfl
theorem Ro20q : EntryOK Proofs.Try.prog R20q := fun k _ _ _ _ _ hy =>
  entry_sound (unpack := up20q) (A := A20q) (k := k) (pre := 1000) (na := 0) (E := E20q) Eo20q El20q mixed_orders (f := 108) (fn := Proofs.Try.f108) (by kernel_rfl) (body_loops (loopsOK_of (n := 1) (by kernel_rfl) fun i hi => match i, hi with | 0, _ => ⟨L20_0q, by kernel_rfl, lk20_0q⟩ | i + 1, hi => absurd hi (by omega))) (enters (fn := Proofs.Try.f108) (by kernel_rfl) (by kernel_rfl) (by kernel_rfl)) (fun _ => rfl) (ev20q k) hy
theorem Rl20q : EntryLocal R20q.2 := entry_local (S := fun k (d : AD as20q) => lim_Square k d.1 d.2.1)

/-! ### giro/fits.moved -/
noncomputable def E21q : Env := ⟨Proofs.Try.prog, fun _ => false, sumsOf [R19q, R20q]⟩
def I21_0q : Spec := ⟨[(4, .c (.lit (.ptr 1001000 0))), (5, .c (.lit (.ptr 1001001 0))), (15, .c (.dat false y7q)), (16, .c (.int .i64)), (17, .c (.int .i64))], [.box true [.lit .nsl, .lit .nsl, .lit .nsl], .box true [.lit (.osl 1001002 none), .lit (.osl 1001003 none), .lit (.osl 1001004 none)], .arr true (.int .i64), .arr true (.int .i64), .mat], []⟩
def X0_21_0q : Spec := ⟨[(4, .c (.lit (.ptr 1001000 0))), (5, .c (.lit (.ptr 1001001 0)))], [.box true [.lit .nsl, .lit .nsl, .lit .nsl], .box true [.lit (.osl 1001002 none), .lit (.osl 1001003 none), .lit (.osl 1001004 none)], .arr true (.int .i64), .arr true (.int .i64), .mat], []⟩
def O21_0q : List (Ex × Spec) := [(.exit 0, X0_21_0q)]
abbrev Z21_0q : Type := (List Int) × (List Int) × (List (List Int))
def c21_0q (f : List K1q → Int → Int → List Int → List Int → List (List Int) → Option Z21_0q) (d : I21_0q.den) : Option Z21_0q := f d.1.2.2.1.1 d.1.2.2.2.1.1 d.1.2.2.2.2.1.1 d.2.2.2.1 d.2.2.2.2.1 d.2.2.2.2.2.1
def T21_0q : OutD O21_0q → Z21_0q := fun d => (d.2.2.2.1, d.2.2.2.2.1, d.2.2.2.2.2.1)
def e21_0q (base : Nat) (x : Z21_0q) (R : Type) (K : Ex → St → Option R) : Option R := K (.exit 0) (stOf base X0_21_0q (((), (), ()), ((), (), x.1, x.2.1, x.2.2, ())))
def L21_0q : LoopSum := ⟨I21_0q, O21_0q, Z21_0q, fun k d => c21_0q (fits_moved_L0 k k) d, e21_0q⟩
def A21q : Notes := ⟨[], [(3, L21_0q)]⟩
theorem Eo21q : EnvOK E21q := ⟨eqOK_none, sumsOf_ok (List.forall_mem_cons.2 ⟨Ro19q, List.forall_mem_cons.2 ⟨Ro20q, List.forall_mem_nil _⟩⟩)⟩
theorem El21q : SumsLocal E21q.sums := sumsOf_local (List.forall_mem_cons.2 ⟨Rl19q, List.forall_mem_cons.2 ⟨Rl20q, List.forall_mem_nil _⟩⟩)
theorem st21_0q (k : Nat) (rec : List K1q → Int → Int → List Int → List Int → List (List Int) → Option Z21_0q) (d : I21_0q.den) : c21_0q (fits_moved_L0b k rec) d = evC E21q A21q k 1000 0 84 (loopAt (bodyOf Proofs.Try.f87) 0) (stOf (1000 + loopBase) I21_0q d) (roundK 1000 I21_0q O21_0q T21_0q (c21_0q rec)) := by
  obtain ⟨⟨_, _, ⟨_, _⟩, ⟨_, _⟩, ⟨_, _⟩, _⟩, ⟨_, _, _, _, _, _⟩⟩ := d
  kernel_rfl
theorem lk21_0q : LoopOK Proofs.Try.prog 1000 0 84 (loopAt (bodyOf Proofs.Try.f87) 0) L21_0q :=
  loop_sound (A := A21q) (inS := I21_0q) (outs := O21_0q) Eo21q El21q mixed_orders (loopsOK_none (by kernel_rfl)) T21_0q e21_0q (fun _ _ _ => rfl) (fun k n d => c21_0q (fits_moved_L0 k n) d) (fun _ _ => rfl) (fun k n d => st21_0q k (fits_moved_L0 k n) d)
def as21q : List AS := [.c (.int .i64), .c (.dat false y7q)]
def rs21q : RS := .agg [.own (.int .i64), .own (.int .i64), .mat]
def pk21q : (List Int) × (List Int) × (List (List Int)) → RL rs21q.cells := fun x => (x.1, x.2.1, x.2.2, ())
def up21q : RL rs21q.cells → (List Int) × (List Int) × (List (List Int)) := fun d => (d.1, d.2.1, d.2.2.1)
def R21q : Nat × Entry := (87, fun k nm args h => entry as21q rs21q (fun d => fits_moved k d.1 d.2.1) pk21q nm args h)
theorem ev21q (k : Nat) (d : AD as21q) : evF E21q A21q k 1000 0 Proofs.Try.f87 (absArgs as21q d).1 (absArgs as21q d).2 (outM rs21q up21q) = fits_moved k d.1 d.2.1 := by
  obtain ⟨_, _, _⟩ := d
  kernel_rfl
theorem Ro21q : EntryOK Proofs.Try.prog R21q := fun k _ _ _ _ _ hy =>
  entry_sound (unpack := up21q) (A := A21q) (k := k) (pre := 1000) (na := 0) (E := E21q) Eo21q El21q mixed_orders (f := 87) (fn := Proofs.Try.f87) (by kernel_rfl) (body_loops (loopsOK_of (n := 1) (by kernel_rfl) fun i hi => match i, hi with | 0, _ => ⟨L21_0q, by kernel_rfl, lk21_0q⟩ | i + 1, hi => absurd hi (by omega))) (enters (fn := Proofs.Try.f87) (by kernel_rfl) (by kernel_rfl) (by kernel_rfl)) (fun _ => rfl) (ev21q k) hy
theorem Rl21q : EntryLocal R21q.2 := entry_local (S := fun k (d : AD as21q) => fits_moved k d.1 d.2.1)

/-! ### giro/fits.Short$1 -/
noncomputable def E22q : Env := ⟨Proofs.Try.prog, fun _ => false, sumsOf []⟩
def A22q : Notes := ⟨[], []⟩
theorem Eo22q : EnvOK E22q := ⟨eqOK_none, sumsOf_ok (List.forall_mem_nil _)⟩
theorem El22q : SumsLocal E22q.sums := sumsOf_local (List.forall_mem_nil _)
def as22q : List AS := [.agg [.int .i64, .int .i64, .int .i64, .int .i64, .int .i64, .int .i64, .int .i64], .ptr [.int .i64]]
def rs22q : RS := .c (.bool)
def pk22q : Bool → RL rs22q.cells := fun x => (x, ())
def up22q : RL rs22q.cells → Bool := fun d => d.1
def R22q : Nat × Entry := (89, fun k nm args h => entry as22q rs22q (fun d => fits_Short_fn1 k d.1 d.2.1 d.2.2.1 d.2.2.2.1 d.2.2.2.2.1 d.2.2.2.2.2.1 d.2.2.2.2.2.2.1 d.2.2.2.2.2.2.2.1) pk22q nm args h)
theorem ev22q (k : Nat) (d : AD as22q) : evF E22q A22q k 1000 0 Proofs.Try.f89 (absArgs as22q d).1 (absArgs as22q d).2 (outM rs22q up22q) = fits_Short_fn1 k d.1 d.2.1 d.2.2.1 d.2.2.2.1 d.2.2.2.2.1 d.2.2.2.2.2.1 d.2.2.2.2.2.2.1 d.2.2.2.2.2.2.2.1 := by
  obtain ⟨_, _, _, _, _, _, _, _, _⟩ := d
  kernel_rfl
theorem Ro22q : EntryOK Proofs.Try.prog R22q := fun k _ _ _ _ _ hy =>
  entry_sound (unpack := up22q) (A := A22q) (k := k) (pre := 1000) (na := 0) (E := E22q) Eo22q El22q mixed_orders (f := 89) (fn := Proofs.Try.f89) (by kernel_rfl) (body_loops (loopsOK_none (by kernel_rfl))) (enters (fn := Proofs.Try.f89) (by kernel_rfl) (by kernel_rfl) (by kernel_rfl)) (fun _ => rfl) (ev22q k) hy
theorem Rl22q : EntryLocal R22q.2 := entry_local (S := fun k (d : AD as22q) => fits_Short_fn1 k d.1 d.2.1 d.2.2.1 d.2.2.2.1 d.2.2.2.2.1 d.2.2.2.2.2.1 d.2.2.2.2.2.2.1 d.2.2.2.2.2.2.2.1)

/-! ### slices.IndexFunc[[]giro/api.Pay,giro/api.Pay] -/
noncomputable def E23q : Env := ⟨Proofs.Try.prog, fun _ => false, sumsOf [R22q]⟩
def I23_0q : Spec := ⟨[(0, .c (.dat false y7q)), (1, .c (.lit (.fn 89 [1001000]))), (7, .c (.int .i64)), (8, .c (.int .i64))], [.robox [.int .i64]], []⟩
def X0_23_0q : Spec := ⟨[], [], []⟩
def X1_23_0q : Spec := ⟨[(4, .c (.int .i64))], [], []⟩
def O23_0q : List (Ex × Spec) := [(.exit 0, X0_23_0q), (.ret, X1_23_0q)]
abbrev Z23_0q : Type := Unit ⊕ Int
def c23_0q (f : List K1q → Int → Int → Int → Option Z23_0q) (d : I23_0q.den) : Option Z23_0q := f d.1.1.1 d.1.2.2.1.1 d.1.2.2.2.1.1 d.2.1.1
def T23_0q : OutD O23_0q → Z23_0q
 | .inl d => .inl ()
 | .inr d => .inr d.1.1.1
def e23_0q (base : Nat) (x : Z23_0q) (R : Type) (K : Ex → St → Option R) : Option R := match x with
 | .inl x => K (.exit 0) (stOf base X0_23_0q ((), ()))
 | .inr x => K .ret (stOf base X1_23_0q (((x, ()), ()), ()))
def L23_0q : LoopSum := ⟨I23_0q, O23_0q, Z23_0q, fun k d => c23_0q (slices_IndexFunc_Pay__fits_Short_fn1_L0 k k) d, e23_0q⟩
def A23q : Notes := ⟨[], [(2, L23_0q)]⟩
theorem Eo23q : EnvOK E23q := ⟨eqOK_none, sumsOf_ok (List.forall_mem_cons.2 ⟨Ro22q, List.forall_mem_nil _⟩)⟩
theorem El23q : SumsLocal E23q.sums := sumsOf_local (List.forall_mem_cons.2 ⟨Rl22q, List.forall_mem_nil _⟩)
theorem st23_0q (k : Nat) (rec : List K1q → Int → Int → Int → Option Z23_0q) (d : I23_0q.den) : c23_0q (slices_IndexFunc_Pay__fits_Short_fn1_L0b k rec) d = evC E23q A23q k 1000 0 19 (loopAt (bodyOf Proofs.Try.f109) 0) (stOf (1000 + loopBase) I23_0q d) (roundK 1000 I23_0q O23_0q T23_0q (c23_0q rec)) := by
  obtain ⟨⟨⟨_, _⟩, _, ⟨_, _⟩, ⟨_, _⟩, _⟩, ⟨⟨_, _⟩, _⟩⟩ := d
  kernel_rfl
theorem lk23_0q : LoopOK Proofs.Try.prog 1000 0 19 (loopAt (bodyOf Proofs.Try.f109) 0) L23_0q :=
  loop_sound (A := A23q) (inS := I23_0q) (outs := O23_0q) Eo23q El23q mixed_orders (loopsOK_none (by kernel_rfl)) T23_0q e23_0q (by intro o R K; rcases o with o | o <;> rfl) (fun k n d => c23_0q (slices_IndexFunc_Pay__fits_Short_fn1_L0 k n) d) (fun _ _ => rfl) (fun k n d => st23_0q k (slices_IndexFunc_Pay__fits_Short_fn1_L0 k n) d)
def as23q : List AS := [.c (.dat false y7q), .fn 89 [[.int .i64]]]
def rs23q : RS := .c (.int .i64)
def pk23q : Int → RL rs23q.cells := fun x => (x, ())
def up23q : RL rs23q.cells → Int := fun d => d.1
def R23q : Nat × Entry := (109, fun k nm args h => entry as23q rs23q (fun d => slices_IndexFunc_Pay__fits_Short_fn1 k d.1 d.2.1) pk23q nm args h)
theorem ev23q (k : Nat) (d : AD as23q) : evF E23q A23q k 1000 0 Proofs.Try.f109 (absArgs as23q d).1 (absArgs as23q d).2 (outM rs23q up23q) = slices_IndexFunc_Pay__fits_Short_fn1 k d.1 d.2.1 := by
  obtain ⟨_, _, _⟩ := d
  kernel_rfl
theorem Ro23q : EntryOK Proofs.Try.prog R23q := fun k _ _ _ _ _ hy =>
  entry_sound (unpack := up23q) (A := A23q) (k := k) (pre := 1000) (na := 0) (E := E23q) Eo23q El23q mixed_orders (f := 109) (fn := Proofs.Try.f109) (by kernel_rfl) (body_loops (loopsOK_of (n := 1) (by kernel_rfl) fun i hi => match i, hi with | 0, _ => ⟨L23_0q, by kernel_rfl, lk23_0q⟩ | i + 1, hi => absurd hi (by omega))) (enters (fn := Proofs.Try.f109) (by kernel_rfl) (by kernel_rfl) (by kernel_rfl)) (fun _ => rfl) (ev23q k) hy
theorem Rl23q : EntryLocal R23q.2 := entry_local (S := fun k (d : AD as23q) => slices_IndexFunc_Pay__fits_Short_fn1 k d.1 d.2.1)

/-! ### slices.ContainsFunc[[]giro/api.Pay,giro/api.Pay] -/
noncomputable def E24q : Env := ⟨Proofs.Try.prog, fun _ => false, sumsOf [R23q]⟩
def A24q : Notes := ⟨[], []⟩
theorem Eo24q : EnvOK E24q := ⟨eqOK_none, sumsOf_ok (List.forall_mem_cons.2 ⟨Ro23q, List.forall_mem_nil _⟩)⟩
theorem El24q : SumsLocal E24q.sums := sumsOf_local (List.forall_mem_cons.2 ⟨Rl23q, List.forall_mem_nil _⟩)
def as24q : List AS := [.c (.dat false y7q), .fn 89 [[.int .i64]]]
def rs24q : RS := .c (.bool)
def pk24q : Bool → RL rs24q.cells := fun x => (x, ())
def up24q : RL rs24q.cells → Bool := fun d => d.1
def R24q : Nat × Entry := (88, fun k nm args h => entry as24q rs24q (fun d => slices_ContainsFunc_Pay__fits_Short_fn1 k d.1 d.2.1) pk24q nm args h)
theorem ev24q (k : Nat) (d : AD as24q) : evF E24q A24q k 1000 0 Proofs.Try.f88 (absArgs as24q d).1 (absArgs as24q d).2 (outM rs24q up24q) = slices_ContainsFunc_Pay__fits_Short_fn1 k d.1 d.2.1 := by
  obtain ⟨_, _, _⟩ := d
  kernel_rfl
theorem Ro24q : EntryOK Proofs.Try.prog R24q := fun k _ _ _ _ _ hy =>
  entry_sound (unpack := up24q) (A := A24q) (k := k) (pre := 1000) (na := 0) (E := E24q) Eo24q El24q mixed_orders (f := 88) (fn := Proofs.Try.f88) (by kernel_rfl) (body_loops (loopsOK_none (by kernel_rfl))) (enters (fn := Proofs.Try.f88) (by kernel_rfl) (by kernel_rfl) (by kernel_rfl)) (fun _ => rfl) (ev24q k) hy
theorem Rl24q : EntryLocal R24q.2 := entry_local (S := fun k (d : AD as24q) => slices_ContainsFunc_Pay__fits_Short_fn1 k d.1 d.2.1)

/-! ### giro/lim.Net -/
noncomputable def E25q : Env := ⟨Proofs.Try.prog, fun _ => false, sumsOf []⟩
def I25_0q : Spec := ⟨[(5, .c (.int .i64)), (12, .c (.dat false (.int .i64))), (13, .c (.int .i64)), (14, .c (.int .i64))], [], []⟩
def X0_25_0q : Spec := ⟨[(5, .c (.int .i64))], [], []⟩
def O25_0q : List (Ex × Spec) := [(.exit 0, X0_25_0q)]
abbrev Z25_0q : Type := Int
def c25_0q (f : Int → List Int → Int → Int → Option Z25_0q) (d : I25_0q.den) : Option Z25_0q := f d.1.1.1 d.1.2.1.1 d.1.2.2.1.1 d.1.2.2.2.1.1
def T25_0q : OutD O25_0q → Z25_0q := fun d => d.1.1.1
def e25_0q (base : Nat) (x : Z25_0q) (R : Type) (K : Ex → St → Option R) : Option R := K (.exit 0) (stOf base X0_25_0q (((x, ()), ()), ()))
def L25_0q : LoopSum := ⟨I25_0q, O25_0q, Z25_0q, fun k d => c25_0q (lim_Net_L0 k k) d, e25_0q⟩
def A25q : Notes := ⟨[], [(3, L25_0q)]⟩
theorem Eo25q : EnvOK E25q := ⟨eqOK_none, sumsOf_ok (List.forall_mem_nil _)⟩
theorem El25q : SumsLocal E25q.sums := sumsOf_local (List.forall_mem_nil _)
theorem st25_0q (k : Nat) (rec : Int → List Int → Int → Int → Option Z25_0q) (d : I25_0q.den) : c25_0q (lim_Net_L0b k rec) d = evC E25q A25q k 1000 0 23 (loopAt (bodyOf Proofs.Try.f110) 0) (stOf (1000 + loopBase) I25_0q d) (roundK 1000 I25_0q O25_0q T25_0q (c25_0q rec)) := by
  obtain ⟨⟨⟨_, _⟩, ⟨_, _⟩, ⟨_, _⟩, ⟨_, _⟩, _⟩, _⟩ := d
  kernel_rfl
theorem lk25_0q : LoopOK Proofs.Try.prog 1000 0 23 (loopAt (bodyOf Proofs.Try.f110) 0) L25_0q :=
  loop_sound (A := A25q) (inS := I25_0q) (outs := O25_0q) Eo25q El25q mixed_orders (loopsOK_none (by kernel_rfl)) T25_0q e25_0q (fun _ _ _ => rfl) (fun k n d => c25_0q (lim_Net_L0 k n) d) (fun _ _ => rfl) (fun k n d => st25_0q k (lim_Net_L0 k n) d)
def as25q : List AS := [.agg [.dat false y3q, .dat false (.sl (.int .i64)), .dat false (.int .i64), .dat false (.sl (.int .i64))], .c (.int .i64)]
def rs25q : RS := .c (.int .i64)
def pk25q : Int → RL rs25q.cells := fun x => (x, ())
def up25q : RL rs25q.cells → Int := fun d => d.1
def R25q : Nat × Entry := (110, fun k nm args h => entry as25q rs25q (fun d => lim_Net k d.1 d.2.1 d.2.2.1 d.2.2.2.1 d.2.2.2.2.1) pk25q nm args h)
theorem ev25q (k : Nat) (d : AD as25q) : evF E25q A25q k 1000 0 Proofs.Try.f110 (absArgs as25q d).1 (absArgs as25q d).2 (outM rs25q up25q) = lim_Net k d.1 d.2.1 d.2.2.1 d.2.2.2.1 d.2.2.2.2.1 := by
  obtain ⟨_, _, _, _, _, _⟩ := d
  kernel_rfl
theorem Ro25q : EntryOK Proofs.Try.prog R25q := fun k _ _ _ _ _ hy =>
  entry_sound (unpack := up25q) (A := A25q) (k := k) (pre := 1000) (na := 0) (E := E25q) Eo25q El25q mixed_orders (f := 110) (fn := Proofs.Try.f110) (by kernel_rfl) (body_loops (loopsOK_of (n := 1) (by kernel_rfl) fun i hi => match i, hi with | 0, _ => ⟨L25_0q, by kernel_rfl, lk25_0q⟩ | i + 1, hi => absurd hi (by omega))) (enters (fn := Proofs.Try.f110) (by kernel_rfl) (by kernel_rfl) (by kernel_rfl)) (fun _ => rfl) (ev25q k) hy
theorem Rl25q : EntryLocal R25q.2 := entry_local (S := fun k (d : AD as25q) => lim_Net k d.1 d.2.1 d.2.2.1 d.2.2.2.1 d.2.2.2.2.1)

/-! ### giro/fits.over -/
noncomputable def E26q : Env := ⟨Proofs.Try.prog, fun _ => false, sumsOf []⟩
def A26q : Notes := ⟨[], []⟩
theorem Eo26q : EnvOK E26q := ⟨eqOK_none, sumsOf_ok (List.forall_mem_nil _)⟩
theorem El26q : SumsLocal E26q.sums := sumsOf_local (List.forall_mem_nil _)
def as26q : List AS := [.c (.int .i64), .c (.int .i64)]
def rs26q : RS := .c (.bool)
def pk26q : Bool → RL rs26q.cells := fun x => (x, ())
def up26q : RL rs26q.cells → Bool := fun d => d.1
def R26q : Nat × Entry := (111, fun k nm args h => entry as26q rs26q (fun d => fits_over k d.1 d.2.1) pk26q nm args h)
theorem ev26q (k : Nat) (d : AD as26q) : evF E26q A26q k 1000 0 Proofs.Try.f111 (absArgs as26q d).1 (absArgs as26q d).2 (outM rs26q up26q) = fits_over k d.1 d.2.1 := by
  obtain ⟨_, _, _⟩ := d
  kernel_rfl
theorem Ro26q : EntryOK Proofs.Try.prog R26q := fun k _ _ _ _ _ hy =>
  entry_sound (unpack := up26q) (A := A26q) (k := k) (pre := 1000) (na := 0) (E := E26q) Eo26q El26q mixed_orders (f := 111) (fn := Proofs.Try.f111) (by kernel_rfl) (body_loops (loopsOK_none (by kernel_rfl))) (enters (fn := Proofs.Try.f111) (by kernel_rfl) (by kernel_rfl) (by kernel_rfl)) (fun _ => rfl) (ev26q k) hy
theorem Rl26q : EntryLocal R26q.2 := entry_local (S := fun k (d : AD as26q) => fits_over k d.1 d.2.1)

/-! ### giro/acct.Kept -/
noncomputable def E27q : Env := ⟨Proofs.Try.prog, fun _ => false, sumsOf []⟩
def A27q : Notes := ⟨[], []⟩
theorem Eo27q : EnvOK E27q := ⟨eqOK_none, sumsOf_ok (List.forall_mem_nil _)⟩
theorem El27q : SumsLocal E27q.sums := sumsOf_local (List.forall_mem_nil _)
def as27q : List AS := [.agg [.int .i64, .int .i64, .int .i64], .c (.int .i64)]
def rs27q : RS := .c (.int .i64)
def pk27q : Int → RL rs27q.cells := fun x => (x, ())
def up27q : RL rs27q.cells → Int := fun d => d.1
def R27q : Nat × Entry := (97, fun k nm args h => entry as27q rs27q (fun d => acct_Kept k d.1 d.2.1 d.2.2.1 d.2.2.2.1) pk27q nm args h)
theorem ev27q (k : Nat) (d : AD as27q) : evF E27q A27q k 1000 0 Proofs.Try.f97 (absArgs as27q d).1 (absArgs as27q d).2 (outM rs27q up27q) = acct_Kept k d.1 d.2.1 d.2.2.1 d.2.2.2.1 := by
  obtain ⟨_, _, _, _, _⟩ := d
  kernel_rfl
theorem Ro27q : EntryOK Proofs.Try.prog R27q := fun k _ _ _ _ _ hy =>
  entry_sound (unpack := up27q) (A := A27q) (k := k) (pre := 1000) (na := 0) (E := E27q) Eo27q El27q mixed_orders (f := 97) (fn := Proofs.Try.f97) (by kernel_rfl) (body_loops (loopsOK_none (by kernel_rfl))) (enters (fn := Proofs.Try.f97) (by kernel_rfl) (by kernel_rfl) (by kernel_rfl)) (fun _ => rfl) (ev27q k) hy
theorem Rl27q : EntryLocal R27q.2 := entry_local (S := fun k (d : AD as27q) => acct_Kept k d.1 d.2.1 d.2.2.1 d.2.2.2.1)

/-! ### (giro/fits.move).isShort$1 -/
noncomputable def E28q : Env := ⟨Proofs.Try.prog, fun _ => false, sumsOf [R27q, R26q]⟩
def A28q : Notes := ⟨[], []⟩
theorem Eo28q : EnvOK E28q := ⟨eqOK_none, sumsOf_ok (List.forall_mem_cons.2 ⟨Ro27q, List.forall_mem_cons.2 ⟨Ro26q, List.forall_mem_nil _⟩⟩)⟩
theorem El28q : SumsLocal E28q.sums := sumsOf_local (List.forall_mem_cons.2 ⟨Rl27q, List.forall_mem_cons.2 ⟨Rl26q, List.forall_mem_nil _⟩⟩)
def as28q : List AS := [.agg [.int .i64, .int .i64, .int .i64, .int .i64, .int .i64, .int .i64, .int .i64], .ptr [.int .i64], .ptr [.int .i64, .int .i64, .int .i64], .ptr [.dat false (.int .i64), .dat false (.int .i64), .dat false (.sl (.int .i64))], .ptr [.int .i64], .ptr [.dat false y3q, .dat false (.sl (.int .i64)), .dat false (.int .i64), .dat false (.sl (.int .i64))]]
def rs28q : RS := .c (.bool)
def pk28q : Bool → RL rs28q.cells := fun x => (x, ())
def up28q : RL rs28q.cells → Bool := fun d => d.1
def R28q : Nat × Entry := (112, fun k nm args h => entry as28q rs28q (fun d => fits_move_isShort_fn1 k d.1 d.2.1 d.2.2.1 d.2.2.2.1 d.2.2.2.2.1 d.2.2.2.2.2.1 d.2.2.2.2.2.2.1 d.2.2.2.2.2.2.2.1 d.2.2.2.2.2.2.2.2.1 d.2.2.2.2.2.2.2.2.2.1 d.2.2.2.2.2.2.2.2.2.2.1 d.2.2.2.2.2.2.2.2.2.2.2.1 d.2.2.2.2.2.2.2.2.2.2.2.2.1 d.2.2.2.2.2.2.2.2.2.2.2.2.2.1 d.2.2.2.2.2.2.2.2.2.2.2.2.2.2.1 d.2.2.2.2.2.2.2.2.2.2.2.2.2.2.2.1 d.2.2.2.2.2.2.2.2.2.2.2.2.2.2.2.2.1 d.2.2.2.2.2.2.2.2.2.2.2.2.2.2.2.2.2.1 d.2.2.2.2.2.2.2.2.2.2.2.2.2.2.2.2.2.2.1) pk28q nm args h)
theorem ev28q (k : Nat) (d : AD as28q) : evF E28q A28q k 1000 0 Proofs.Try.f112 (absArgs as28q d).1 (absArgs as28q d).2 (outM rs28q up28q) = fits_move_isShort_fn1 k d.1 d.2.1 d.2.2.1 d.2.2.2.1 d.2.2.2.2.1 d.2.2.2.2.2.1 d.2.2.2.2.2.2.1 d.2.2.2.2.2.2.2.1 d.2.2.2.2.2.2.2.2.1 d.2.2.2.2.2.2.2.2.2.1 d.2.2.2.2.2.2.2.2.2.2.1 d.2.2.2.2.2.2.2.2.2.2.2.1 d.2.2.2.2.2.2.2.2.2.2.2.2.1 d.2.2.2.2.2.2.2.2.2.2.2.2.2.1 d.2.2.2.2.2.2.2.2.2.2.2.2.2.2.1 d.2.2.2.2.2.2.2.2.2.2.2.2.2.2.2.1 d.2.2.2.2.2.2.2.2.2.2.2.2.2.2.2.2.1 d.2.2.2.2.2.2.2.2.2.2.2.2.2.2.2.2.2.1 d.2.2.2.2.2.2.2.2.2.2.2.2.2.2.2.2.2.2.1 := by
  obtain ⟨_, _, _, _, _, _, _, _, _, _, _, _, _, _, _, _, _, _, _, _⟩ := d
  kernel_rfl
theorem Ro28q : EntryOK Proofs.Try.prog R28q := fun k _ _ _ _ _ hy =>
  entry_sound (unpack := up28q) (A := A28q) (k := k) (pre := 1000) (na := 0) (E := E28q) Eo28q El28q mixed_orders (f := 112) (fn := Proofs.Try.f112) (by kernel_rfl) (body_loops (loopsOK_none (by kernel_rfl))) (enters (fn := Proofs.Try.f112) (by kernel_rfl) (by kernel_rfl) (by kernel_rfl)) (fun _ => rfl) (ev28q k) hy
theorem Rl28q : EntryLocal R28q.2 := entry_local (S := fun k (d : AD as28q) => fits_move_isShort_fn1 k d.1 d.2.1 d.2.2.1 d.2.2.2.1 d.2.2.2.2.1 d.2.2.2.2.2.1 d.2.2.2.2.2.2.1 d.2.2.2.2.2.2.2.1 d.2.2.2.2.2.2.2.2.1 d.2.2.2.2.2.2.2.2.2.1 d.2.2.2.2.2.2.2.2.2.2.1 d.2.2.2.2.2.2.2.2.2.2.2.1 d.2.2.2.2.2.2.2.2.2.2.2.2.1 d.2.2.2.2.2.2.2.2.2.2.2.2.2.1 d.2.2.2.2.2.2.2.2.2.2.2.2.2.2.1 d.2.2.2.2.2.2.2.2.2.2.2.2.2.2.2.1 d.2.2.2.2.2.2.2.2.2.2.2.2.2.2.2.2.1 d.2.2.2.2.2.2.2.2.2.2.2.2.2.2.2.2.2.1 d.2.2.2.2.2.2.2.2.2.2.2.2.2.2.2.2.2.2.1)

/-! ### slices.IndexFunc[[]giro/api.Pay,giro/api.Pay] -/
noncomputable def E29q : Env := ⟨Proofs.Try.prog, fun _ => false, sumsOf [R28q]⟩
def I29_0q : Spec := ⟨[(0, .c (.dat false y7q)), (1, .c (.lit (.fn 112 [1001000, 1001001, 1001002, 1001003, 1001004]))), (7, .c (.int .i64)), (8, .c (.int .i64))], [.robox [.int .i64], .robox [.int .i64, .int .i64, .int .i64], .robox [.dat false (.int .i64), .dat false (.int .i64), .dat false (.sl (.int .i64))], .robox [.int .i64], .robox [.dat false y3q, .dat false (.sl (.int .i64)), .dat false (.int .i64), .dat false (.sl (.int .i64))]], []⟩
def X0_29_0q : Spec := ⟨[], [], []⟩
def X1_29_0q : Spec := ⟨[(4, .c (.int .i64))], [], []⟩
def O29_0q : List (Ex × Spec) := [(.exit 0, X0_29_0q), (.ret, X1_29_0q)]
abbrev Z29_0q : Type := Unit ⊕ Int
def c29_0q (f : List K1q → Int → Int → Int → Int → Int → Int → List Int → List Int → List (List Int) → Int → List K2q → List (List Int) → List Int → List (List Int) → Option Z29_0q) (d : I29_0q.den) : Option Z29_0q := f d.1.1.1 d.1.2.2.1.1 d.1.2.2.2.1.1 d.2.1.1 d.2.2.1.1 d.2.2.1.2.1 d.2.2.1.2.2.1 d.2.2.2.1.1 d.2.2.2.1.2.1 d.2.2.2.1.2.2.1 d.2.2.2.2.1.1 d.2.2.2.2.2.1.1 d.2.2.2.2.2.1.2.1 d.2.2.2.2.2.1.2.2.1 d.2.2.2.2.2.1.2.2.2.1
def T29_0q : OutD O29_0q → Z29_0q
 | .inl d => .inl ()
 | .inr d => .inr d.1.1.1
def e29_0q (base : Nat) (x : Z29_0q) (R : Type) (K : Ex → St → Option R) : Option R := match x with
 | .inl x => K (.exit 0) (stOf base X0_29_0q ((), ()))
 | .inr x => K .ret (stOf base X1_29_0q (((x, ()), ()), ()))
def L29_0q : LoopSum := ⟨I29_0q, O29_0q, Z29_0q, fun k d => c29_0q (slices_IndexFunc_Pay__fits_move_isShort_fn1_L0 k k) d, e29_0q⟩
def A29q : Notes := ⟨[], [(2, L29_0q)]⟩
theorem Eo29q : EnvOK E29q := ⟨eqOK_none, sumsOf_ok (List.forall_mem_cons.2 ⟨Ro28q, List.forall_mem_nil _⟩)⟩
theorem El29q : SumsLocal E29q.sums := sumsOf_local (List.forall_mem_cons.2 ⟨Rl28q, List.forall_mem_nil _⟩)
theorem st29_0q (k : Nat) (rec : List K1q → Int → Int → Int → Int → Int → Int → List Int → List Int → List (List Int) → Int → List K2q → List (List Int) → List Int → List (List Int) → Option Z29_0q) (d : I29_0q.den) : c29_0q (slices_IndexFunc_Pay__fits_move_isShort_fn1_L0b k rec) d = evC E29q A29q k 1000 0 19 (loopAt (bodyOf Proofs.Try.f109) 0) (stOf (1000 + loopBase) I29_0q d) (roundK 1000 I29_0q O29_0q T29_0q (c29_0q rec)) := by
  obtain ⟨⟨⟨_, _⟩, _, ⟨_, _⟩, ⟨_, _⟩, _⟩, ⟨⟨_, _⟩, ⟨_, _, _, _⟩, ⟨_, _, _, _⟩, ⟨_, _⟩, ⟨_, _, _, _, _⟩, _⟩⟩ := d
  kernel_rfl
theorem lk29_0q : LoopOK Proofs.Try.prog 1000 0 19 (loopAt (bodyOf Proofs.Try.f109) 0) L29_0q :=
  loop_sound (A := A29q) (inS := I29_0q) (outs := O29_0q) Eo29q El29q mixed_orders (loopsOK_none (by kernel_rfl)) T29_0q e29_0q (by intro o R K; rcases o with o | o <;> rfl) (fun k n d => c29_0q (slices_IndexFunc_Pay__fits_move_isShort_fn1_L0 k n) d) (fun _ _ => rfl) (fun k n d => st29_0q k (slices_IndexFunc_Pay__fits_move_isShort_fn1_L0 k n) d)
def as29q : List AS := [.c (.dat false y7q), .fn 112 [[.int .i64], [.int .i64, .int .i64, .int .i64], [.dat false (.int .i64), .dat false (.int .i64), .dat false (.sl (.int .i64))], [.int .i64], [.dat false y3q, .dat false (.sl (.int .i64)), .dat false (.int .i64), .dat false (.sl (.int .i64))]]]
def rs29q : RS := .c (.int .i64)
def pk29q : Int → RL rs29q.cells := fun x => (x, ())
def up29q : RL rs29q.cells → Int := fun d => d.1
def R29q : Nat × Entry := (109, fun k nm args h => entry as29q rs29q (fun d => slices_IndexFunc_Pay__fits_move_isShort_fn1 k d.1 d.2.1 d.2.2.1 d.2.2.2.1 d.2.2.2.2.1 d.2.2.2.2.2.1 d.2.2.2.2.2.2.1 d.2.2.2.2.2.2.2.1 d.2.2.2.2.2.2.2.2.1 d.2.2.2.2.2.2.2.2.2.1 d.2.2.2.2.2.2.2.2.2.2.1 d.2.2.2.2.2.2.2.2.2.2.2.1 d.2.2.2.2.2.2.2.2.2.2.2.2.1) pk29q nm args h)
theorem ev29q (k : Nat) (d : AD as29q) : evF E29q A29q k 1000 0 Proofs.Try.f109 (absArgs as29q d).1 (absArgs as29q d).2 (outM rs29q up29q) = slices_IndexFunc_Pay__fits_move_isShort_fn1 k d.1 d.2.1 d.2.2.1 d.2.2.2.1 d.2.2.2.2.1 d.2.2.2.2.2.1 d.2.2.2.2.2.2.1 d.2.2.2.2.2.2.2.1 d.2.2.2.2.2.2.2.2.1 d.2.2.2.2.2.2.2.2.2.1 d.2.2.2.2.2.2.2.2.2.2.1 d.2.2.2.2.2.2.2.2.2.2.2.1 d.2.2.2.2.2.2.2.2.2.2.2.2.1 := by
  obtain ⟨_, _, _, _, _, _, _, _, _, _, _, _, _, _⟩ := d
  kernel_rfl
theorem Ro29q : EntryOK Proofs.Try.prog R29q := fun k _ _ _ _ _ hy =>
  entry_sound (unpack := up29q) (A := A29q) (k := k) (pre := 1000) (na := 0) (E := E29q) Eo29q El29q mixed_orders (f := 109) (fn := Proofs.Try.f109) (by kernel_rfl) (body_loops (loopsOK_of (n := 1) (by kernel_rfl) fun i hi => match i, hi with | 0, _ => ⟨L29_0q, by kernel_rfl, lk29_0q⟩ | i + 1, hi => absurd hi (by omega))) (enters (fn := Proofs.Try.f109) (by kernel_rfl) (by kernel_rfl) (by kernel_rfl)) (fun _ => rfl) (ev29q k) hy
theorem Rl29q : EntryLocal R29q.2 := entry_local (S := fun k (d : AD as29q) => slices_IndexFunc_Pay__fits_move_isShort_fn1 k d.1 d.2.1 d.2.2.1 d.2.2.2.1 d.2.2.2.2.1 d.2.2.2.2.2.1 d.2.2.2.2.2.2.1 d.2.2.2.2.2.2.2.1 d.2.2.2.2.2.2.2.2.1 d.2.2.2.2.2.2.2.2.2.1 d.2.2.2.2.2.2.2.2.2.2.1 d.2.2.2.2.2.2.2.2.2.2.2.1 d.2.2.2.2.2.2.2.2.2.2.2.2.1)

/-! ### slices.ContainsFunc[[]giro/api.Pay,giro/api.Pay] -/
noncomputable def E30q : Env := ⟨Proofs.Try.prog, fun _ => false, sumsOf [R29q]⟩
def A30q : Notes := ⟨[], []⟩
theorem Eo30q : EnvOK E30q := ⟨eqOK_none, sumsOf_ok (List.forall_mem_cons.2 ⟨Ro29q, List.forall_mem_nil _⟩)⟩
theorem El30q : SumsLocal E30q.sums := sumsOf_local (List.forall_mem_cons.2 ⟨Rl29q, List.forall_mem_nil _⟩)
def as30q : List AS := [.c (.dat false y7q), .fn 112 [[.int .i64], [.int .i64, .int .i64, .int .i64], [.dat false (.int .i64), .dat false (.int .i64), .dat false (.sl (.int .i64))], [.int .i64], [.dat false y3q, .dat false (.sl (.int .i64)), .dat false (.int .i64), .dat false (.sl (.int .i64))]]]
def rs30q : RS := .c (.bool)
def pk30q : Bool → RL rs30q.cells := fun x => (x, ())
def up30q : RL rs30q.cells → Bool := fun d => d.1
def R30q : Nat × Entry := (88, fun k nm args h => entry as30q rs30q (fun d => slices_ContainsFunc_Pay__fits_move_isShort_fn1 k d.1 d.2.1 d.2.2.1 d.2.2.2.1 d.2.2.2.2.1 d.2.2.2.2.2.1 d.2.2.2.2.2.2.1 d.2.2.2.2.2.2.2.1 d.2.2.2.2.2.2.2.2.1 d.2.2.2.2.2.2.2.2.2.1 d.2.2.2.2.2.2.2.2.2.2.1 d.2.2.2.2.2.2.2.2.2.2.2.1 d.2.2.2.2.2.2.2.2.2.2.2.2.1) pk30q nm args h)
theorem ev30q (k : Nat) (d : AD as30q) : evF E30q A30q k 1000 0 Proofs.Try.f88 (absArgs as30q d).1 (absArgs as30q d).2 (outM rs30q up30q) = slices_ContainsFunc_Pay__fits_move_isShort_fn1 k d.1 d.2.1 d.2.2.1 d.2.2.2.1 d.2.2.2.2.1 d.2.2.2.2.2.1 d.2.2.2.2.2.2.1 d.2.2.2.2.2.2.2.1 d.2.2.2.2.2.2.2.2.1 d.2.2.2.2.2.2.2.2.2.1 d.2.2.2.2.2.2.2.2.2.2.1 d.2.2.2.2.2.2.2.2.2.2.2.1 d.2.2.2.2.2.2.2.2.2.2.2.2.1 := by
  obtain ⟨_, _, _, _, _, _, _, _, _, _, _, _, _, _⟩ := d
  kernel_rfl
theorem Ro30q : EntryOK Proofs.Try.prog R30q := fun k _ _ _ _ _ hy =>
  entry_sound (unpack := up30q) (A := A30q) (k := k) (pre := 1000) (na := 0) (E := E30q) Eo30q El30q mixed_orders (f := 88) (fn := Proofs.Try.f88) (by kernel_rfl) (body_loops (loopsOK_none (by kernel_rfl))) (enters (fn := Proofs.Try.f88) (by kernel_rfl) (by kernel_rfl) (by kernel_rfl)) (fun _ => rfl) (ev30q k) hy
theorem Rl30q : EntryLocal R30q.2 := entry_local (S := fun k (d : AD as30q) => slices_ContainsFunc_Pay__fits_move_isShort_fn1 k d.1 d.2.1 d.2.2.1 d.2.2.2.1 d.2.2.2.2.1 d.2.2.2.2.2.1 d.2.2.2.2.2.2.1 d.2.2.2.2.2.2.2.1 d.2.2.2.2.2.2.2.2.1 d.2.2.2.2.2.2.2.2.2.1 d.2.2.2.2.2.2.2.2.2.2.1 d.2.2.2.2.2.2.2.2.2.2.2.1 d.2.2.2.2.2.2.2.2.2.2.2.2.1)

/-! ### (giro/fits.move).isShort -/
noncomputable def E31q : Env := ⟨Proofs.Try.prog, fun _ => false, sumsOf [R25q, R26q, R30q]⟩
def I31_0q : Spec := ⟨[(3, .c (.dat false y7q)), (4, .c (.lit (.ptr 1001000 0))), (5, .c (.lit (.ptr 1001001 0))), (6, .c (.lit (.ptr 1001002 0))), (9, .c (.lit (.ptr 1001003 0))), (10, .c (.lit (.ptr 1001004 0))), (11, .c (.int .i64)), (39, .c (.dat false (.int .i64))), (40, .c (.int .i64)), (41, .c (.int .i64))], [.box true [.dat false (.int .i64), .dat false (.int .i64), .dat false (.sl (.int .i64))], .box true [.dat false y3q, .dat false (.sl (.int .i64)), .dat false (.int .i64), .dat false (.sl (.int .i64))], .box true [.int .i64], .box true [.int .i64, .int .i64, .int .i64], .box true [.int .i64]], []⟩
def X0_31_0q : Spec := ⟨[(3, .c (.dat false y7q)), (4, .c (.lit (.ptr 1001000 0))), (5, .c (.lit (.ptr 1001001 0))), (6, .c (.lit (.ptr 1001002 0))), (9, .c (.lit (.ptr 1001003 0))), (10, .c (.lit (.ptr 1001004 0))), (11, .c (.int .i64))], [.box true [.dat false (.int .i64), .dat false (.int .i64), .dat false (.sl (.int .i64))], .box true [.dat false y3q, .dat false (.sl (.int .i64)), .dat false (.int .i64), .dat false (.sl (.int .i64))], .box true [.int .i64], .box true [.int .i64, .int .i64, .int .i64], .box true [.int .i64]], []⟩
def O31_0q : List (Ex × Spec) := [(.exit 0, X0_31_0q)]
abbrev Z31_0q : Type := (List K1q) × Int × (List Int) × (List Int) × (List (List Int)) × (List K2q) × (List (List Int)) × (List Int) × (List (List Int)) × Int × Int × Int × Int × Int
def c31_0q (f : List K1q → Int → List Int → Int → Int → List Int → List Int → List (List Int) → List K2q → List (List Int) → List Int → List (List Int) → Int → Int → Int → Int → Int → Option Z31_0q) (d : I31_0q.den) : Option Z31_0q := f d.1.1.1 d.1.2.2.2.2.2.2.1.1 d.1.2.2.2.2.2.2.2.1.1 d.1.2.2.2.2.2.2.2.2.1.1 d.1.2.2.2.2.2.2.2.2.2.1.1 d.2.1.1 d.2.1.2.1 d.2.1.2.2.1 d.2.2.1.1 d.2.2.1.2.1 d.2.2.1.2.2.1 d.2.2.1.2.2.2.1 d.2.2.2.1.1 d.2.2.2.2.1.1 d.2.2.2.2.1.2.1 d.2.2.2.2.1.2.2.1 d.2.2.2.2.2.1.1
def T31_0q : OutD O31_0q → Z31_0q := fun d => (d.1.1.1, d.1.2.2.2.2.2.2.1.1, d.2.1.1, d.2.1.2.1, d.2.1.2.2.1, d.2.2.1.1, d.2.2.1.2.1, d.2.2.1.2.2.1, d.2.2.1.2.2.2.1, d.2.2.2.1.1, d.2.2.2.2.1.1, d.2.2.2.2.1.2.1, d.2.2.2.2.1.2.2.1, d.2.2.2.2.2.1.1)
def e31_0q (base : Nat) (x : Z31_0q) (R : Type) (K : Ex → St → Option R) : Option R := K (.exit 0) (stOf base X0_31_0q (((x.1, ()), (), (), (), (), (), (x.2.1, ()), ()), ((x.2.2.1, x.2.2.2.1, x.2.2.2.2.1, ()), (x.2.2.2.2.2.1, x.2.2.2.2.2.2.1, x.2.2.2.2.2.2.2.1, x.2.2.2.2.2.2.2.2.1, ()), (x.2.2.2.2.2.2.2.2.2.1, ()), (x.2.2.2.2.2.2.2.2.2.2.1, x.2.2.2.2.2.2.2.2.2.2.2.1, x.2.2.2.2.2.2.2.2.2.2.2.2.1, ()), (x.2.2.2.2.2.2.2.2.2.2.2.2.2, ()), ())))
def L31_0q : LoopSum := ⟨I31_0q, O31_0q, Z31_0q, fun k d => c31_0q (fits_move_isShort_L0 k k) d, e31_0q⟩
def A31q : Notes := ⟨[], [(7, L31_0q)]⟩
theorem Eo31q : EnvOK E31q := ⟨eqOK_none, sumsOf_ok (List.forall_mem_cons.2 ⟨Ro25q, List.forall_mem_cons.2 ⟨Ro26q, List.forall_mem_cons.2 ⟨Ro30q, List.forall_mem_nil _⟩⟩⟩)⟩
theorem El31q : SumsLocal E31q.sums := sumsOf_local (List.forall_mem_cons.2 ⟨Rl25q, List.forall_mem_cons.2 ⟨Rl26q, List.forall_mem_cons.2 ⟨Rl30q, List.forall_mem_nil _⟩⟩⟩)
theorem st31_0q (k : Nat) (rec : List K1q → Int → List Int → Int → Int → List Int → List Int → List (List Int) → List K2q → List (List Int) → List Int → List (List Int) → Int → Int → Int → Int → Int → Option Z31_0q) (d : I31_0q.den) : c31_0q (fits_move_isShort_L0b k rec) d = evC E31q A31q k 1000 0 59 (loopAt (bodyOf Proofs.Try.f90) 0) (stOf (1000 + loopBase) I31_0q d) (roundK 1000 I31_0q O31_0q T31_0q (c31_0q rec)) := by
  obtain ⟨⟨⟨_, _⟩, _, _, _, _, _, ⟨_, _⟩, ⟨_, _⟩, ⟨_, _⟩, ⟨_, _⟩, _⟩, ⟨⟨_, _, _, _⟩, ⟨_, _, _, _, _⟩, ⟨_, _⟩, ⟨_, _, _, _⟩, ⟨_, _⟩, _⟩⟩ := d
  kernel_rfl
theorem lk31_0q : LoopOK Proofs.Try.prog 1000 0 59 (loopAt (bodyOf Proofs.Try.f90) 0) L31_0q :=
  loop_sound (A := A31q) (inS := I31_0q) (outs := O31_0q) Eo31q El31q mixed_orders (loopsOK_none (by kernel_rfl)) T31_0q e31_0q (fun _ _ _ => rfl) (fun k n d => c31_0q (fits_move_isShort_L0 k n) d) (fun _ _ => rfl) (fun k n d => st31_0q k (fits_move_isShort_L0 k n) d)
def as31q : List AS := [.agg [.dat false (.int .i64), .dat false (.int .i64), .dat false (.sl (.int .i64))], .agg [.dat false y3q, .dat false (.sl (.int .i64)), .dat false (.int .i64), .dat false (.sl (.int .i64))], .c (.int .i64), .c (.dat false y7q)]
def rs31q : RS := .c (.bool)
def pk31q : Bool → RL rs31q.cells := fun x => (x, ())
def up31q : RL rs31q.cells → Bool := fun d => d.1
def R31q : Nat × Entry := (90, fun k nm args h => entry as31q rs31q (fun d => fits_move_isShort k d.1 d.2.1 d.2.2.1 d.2.2.2.1 d.2.2.2.2.1 d.2.2.2.2.2.1 d.2.2.2.2.2.2.1 d.2.2.2.2.2.2.2.1 d.2.2.2.2.2.2.2.2.1) pk31q nm args h)
theorem ev31q (k : Nat) (d : AD as31q) : evF E31q A31q k 1000 0 Proofs.Try.f90 (absArgs as31q d).1 (absArgs as31q d).2 (outM rs31q up31q) = fits_move_isShort k d.1 d.2.1 d.2.2.1 d.2.2.2.1 d.2.2.2.2.1 d.2.2.2.2.2.1 d.2.2.2.2.2.2.1 d.2.2.2.2.2.2.2.1 d.2.2.2.2.2.2.2.2.1 := by
  obtain ⟨_, _, _, _, _, _, _, _, _, _⟩ := d
  kernel_rfl
theorem Ro31q : EntryOK Proofs.Try.prog R31q := fun k _ _ _ _ _ hy =>
  entry_sound (unpack := up31q) (A := A31q) (k := k) (pre := 1000) (na := 0) (E := E31q) Eo31q El31q mixed_orders (f := 90) (fn := Proofs.Try.f90) (by kernel_rfl) (body_loops (loopsOK_of (n := 1) (by kernel_rfl) fun i hi => match i, hi with | 0, _ => ⟨L31_0q, by kernel_rfl, lk31_0q⟩ | i + 1, hi => absurd hi (by omega))) (enters (fn := Proofs.Try.f90) (by kernel_rfl) (by kernel_rfl) (by kernel_rfl)) (fun _ => rfl) (ev31q k) hy
theorem Rl31q : EntryLocal R31q.2 := entry_local (S := fun k (d : AD as31q) => fits_move_isShort k d.1 d.2.1 d.2.2.1 d.2.2.2.1 d.2.2.2.2.1 d.2.2.2.2.2.1 d.2.2.2.2.2.2.1 d.2.2.2.2.2.2.2.1 d.2.2.2.2.2.2.2.2.1)

/-! ### giro/fits.Short -/
noncomputable def E32q : Env := ⟨Proofs.Try.prog, fun _ => false, sumsOf [R21q, R24q, R31q]⟩
def I32_0q : Spec := ⟨[(1, .c (.dat false y7q)), (2, .c (.lit (.ptr 1001000 0))), (5, .c (.lit (.ptr 1001001 0))), (6, .c (.lit (.osl 1001005 none))), (16, .c (.int .i64)), (17, .c (.int .i64))], [.box true [.dat false y3q, .dat false (.sl (.int .i64)), .dat false (.int .i64), .dat false (.sl (.int .i64))], .box true [.lit (.osl 1001002 none), .lit (.osl 1001003 none), .lit (.osl 1001004 none)], .arr true (.int .i64), .arr true (.int .i64), .mat, .arr true (.int .i64)], [(6, none, (.int .i64), false)]⟩
def X0_32_0q : Spec := ⟨[(6, .c (.lit (.osl 1001000 none)))], [.arr true (.int .i64)], []⟩
def O32_0q : List (Ex × Spec) := [(.exit 0, X0_32_0q)]
abbrev Z32_0q : Type := List Int
def c32_0q (f : List K1q → Int → Int → List K2q → List (List Int) → List Int → List (List Int) → List Int → List Int → List (List Int) → List Int → Option Z32_0q) (d : I32_0q.den) : Option Z32_0q := f d.1.1.1 d.1.2.2.2.2.1.1 d.1.2.2.2.2.2.1.1 d.2.1.1 d.2.1.2.1 d.2.1.2.2.1 d.2.1.2.2.2.1 d.2.2.2.1 d.2.2.2.2.1 d.2.2.2.2.2.1 d.2.2.2.2.2.2.1
def T32_0q : OutD O32_0q → Z32_0q := fun d => d.2.1
def e32_0q (base : Nat) (x : Z32_0q) (R : Type) (K : Ex → St → Option R) : Option R := K (.exit 0) (stOf base X0_32_0q (((), ()), (x, ())))
def L32_0q : LoopSum := ⟨I32_0q, O32_0q, Z32_0q, fun k d => c32_0q (fits_Short_L0 k k) d, e32_0q⟩
def A32q : Notes := ⟨[], [(4, L32_0q)]⟩
theorem Eo32q : EnvOK E32q := ⟨eqOK_none, sumsOf_ok (List.forall_mem_cons.2 ⟨Ro21q, List.forall_mem_cons.2 ⟨Ro24q, List.forall_mem_cons.2 ⟨Ro31q, List.forall_mem_nil _⟩⟩⟩)⟩
theorem El32q : SumsLocal E32q.sums := sumsOf_local (List.forall_mem_cons.2 ⟨Rl21q, List.forall_mem_cons.2 ⟨Rl24q, List.forall_mem_cons.2 ⟨Rl31q, List.forall_mem_nil _⟩⟩⟩)
theorem st32_0q (k : Nat) (rec : List K1q → Int → Int → List K2q → List (List Int) → List Int → List (List Int) → List Int → List Int → List (List Int) → List Int → Option Z32_0q) (d : I32_0q.den) : c32_0q (fits_Short_L0b k rec) d = evC E32q A32q k 1000 0 37 (loopAt (bodyOf Proofs.Try.f50) 0) (stOf (1000 + loopBase) I32_0q d) (roundK 1000 I32_0q O32_0q T32_0q (c32_0q rec)) := by
  obtain ⟨⟨⟨_, _⟩, _, _, _, ⟨_, _⟩, ⟨_, _⟩, _⟩, ⟨⟨_, _, _, _, _⟩, _, _, _, _, _, _⟩⟩ := d
  kernel_rfl
theorem lk32_0q : LoopOK Proofs.Try.prog 1000 0 37 (loopAt (bodyOf Proofs.Try.f50) 0) L32_0q :=
  loop_sound (A := A32q) (inS := I32_0q) (outs := O32_0q) Eo32q El32q mixed_orders (loopsOK_none (by kernel_rfl)) T32_0q e32_0q (fun _ _ _ => rfl) (fun k n d => c32_0q (fits_Short_L0 k n) d) (fun _ _ => rfl) (fun k n d => st32_0q k (fits_Short_L0 k n) d)
def as32q : List AS := [.agg [.dat false y3q, .dat false (.sl (.int .i64)), .dat false (.int .i64), .dat false (.sl (.int .i64))], .c (.dat false y7q)]
def rs32q : RS := .c (.own (.int .i64))
def pk32q : List Int → RL rs32q.cells := fun x => (x, ())
def up32q : RL rs32q.cells → List Int := fun d => d.1
def R32q : Nat × Entry := (50, fun k nm args h => entry as32q rs32q (fun d => fits_Short k d.1 d.2.1 d.2.2.1 d.2.2.2.1 d.2.2.2.2.1) pk32q nm args h)
theorem ev32q (k : Nat) (d : AD as32q) : evF E32q A32q k 1000 0 Proofs.Try.f50 (absArgs as32q d).1 (absArgs as32q d).2 (outM rs32q up32q) = fits_Short k d.1 d.2.1 d.2.2.1 d.2.2.2.1 d.2.2.2.2.1 := by
  obtain ⟨_, _, _, _, _, _⟩ := d
  kernel_rfl
theorem Ro32q : EntryOK Proofs.Try.prog R32q := fun k _ _ _ _ _ hy =>
  entry_sound (unpack := up32q) (A := A32q) (k := k) (pre := 1000) (na := 0) (E := E32q) Eo32q El32q mixed_orders (f := 50) (fn := Proofs.Try.f50) (by kernel_rfl) (body_loops (loopsOK_of (n := 1) (by kernel_rfl) fun i hi => match i, hi with | 0, _ => ⟨L32_0q, by kernel_rfl, lk32_0q⟩ | i + 1, hi => absurd hi (by omega))) (enters (fn := Proofs.Try.f50) (by kernel_rfl) (by kernel_rfl) (by kernel_rfl)) (fun _ => rfl) (ev32q k) hy
theorem Rl32q : EntryLocal R32q.2 := entry_local (S := fun k (d : AD as32q) => fits_Short k d.1 d.2.1 d.2.2.1 d.2.2.2.1 d.2.2.2.2.1)

/-! ### giro/knot.Most -/
noncomputable def E33q : Env := ⟨Proofs.Try.prog, fun _ => false, sumsOf [R10q, R13q, R17q, R32q]⟩
def I33_0q : Spec := ⟨[(3, .c (.lit (.ptr 1001000 0))), (6, .c (.lit (.osl 1001001 none))), (7, .c (.int .i64)), (8, .c (.lit (.osl 1001002 none))), (18, .c (.int .i64)), (19, .c (.int .i64))], [.box true [.dat false y3q, .dat false (.sl (.int .i64)), .dat false (.int .i64), .dat false (.sl (.int .i64))], .arr true (.int .i64), .arr true y7q], [(6, none, (.int .i64), false)]⟩
def X0_33_0q : Spec := ⟨[(3, .c (.lit (.ptr 1001000 0))), (6, .c (.lit (.osl 1001001 none))), (7, .c (.int .i64)), (8, .c (.lit (.osl 1001002 none)))], [.box true [.dat false y3q, .dat false (.sl (.int .i64)), .dat false (.int .i64), .dat false (.sl (.int .i64))], .arr true (.int .i64), .arr true y7q], []⟩
def O33_0q : List (Ex × Spec) := [(.exit 0, X0_33_0q)]
abbrev Z33_0q : Type := Int × (List K2q) × (List (List Int)) × (List Int) × (List (List Int)) × (List Int) × (List K1q)
def c33_0q (f : Int → Int → Int → List K2q → List (List Int) → List Int → List (List Int) → List Int → List K1q → Option Z33_0q) (d : I33_0q.den) : Option Z33_0q := f d.1.2.2.1.1 d.1.2.2.2.2.1.1 d.1.2.2.2.2.2.1.1 d.2.1.1 d.2.1.2.1 d.2.1.2.2.1 d.2.1.2.2.2.1 d.2.2.1 d.2.2.2.1
def T33_0q : OutD O33_0q → Z33_0q := fun d => (d.1.2.2.1.1, d.2.1.1, d.2.1.2.1, d.2.1.2.2.1, d.2.1.2.2.2.1, d.2.2.1, d.2.2.2.1)
def e33_0q (base : Nat) (x : Z33_0q) (R : Type) (K : Ex → St → Option R) : Option R := K (.exit 0) (stOf base X0_33_0q (((), (), (x.1, ()), (), ()), ((x.2.1, x.2.2.1, x.2.2.2.1, x.2.2.2.2.1, ()), x.2.2.2.2.2.1, x.2.2.2.2.2.2, ())))
def L33_0q : LoopSum := ⟨I33_0q, O33_0q, Z33_0q, fun k d => c33_0q (knot_Most_L0 k k) d, e33_0q⟩
def I33_1q : Spec := ⟨[(3, .c (.lit (.ptr 1001000 0))), (6, .c (.lit (.osl 1001001 none))), (7, .c (.int .i64)), (8, .c (.lit (.osl 1001002 none))), (42, .c (.lit (.osl 1001003 none))), (43, .c (.int .i64)), (44, .c (.int .i64))], [.box true [.dat false y3q, .dat false (.sl (.int .i64)), .dat false (.int .i64), .dat false (.sl (.int .i64))], .arr true (.int .i64), .arr true y7q, .arr true (.int .i64)], []⟩
def X0_33_1q : Spec := ⟨[(3, .c (.lit (.ptr 1001000 0))), (6, .c (.lit (.osl 1001001 none))), (7, .c (.int .i64)), (8, .c (.lit (.osl 1001002 none)))], [.box true [.dat false y3q, .dat false (.sl (.int .i64)), .dat false (.int .i64), .dat false (.sl (.int .i64))], .arr true (.int .i64), .arr true y7q], []⟩
def O33_1q : List (Ex × Spec) := [(.exit 4, X0_33_1q)]
abbrev Z33_1q : Type := Int × (List K2q) × (List (List Int)) × (List Int) × (List (List Int)) × (List Int) × (List K1q)
def c33_1q (f : Int → Int → Int → List K2q → List (List Int) → List Int → List (List Int) → List Int → List K1q → List Int → Option Z33_1q) (d : I33_1q.den) : Option Z33_1q := f d.1.2.2.1.1 d.1.2.2.2.2.2.1.1 d.1.2.2.2.2.2.2.1.1 d.2.1.1 d.2.1.2.1 d.2.1.2.2.1 d.2.1.2.2.2.1 d.2.2.1 d.2.2.2.1 d.2.2.2.2.1
def T33_1q : OutD O33_1q → Z33_1q := fun d => (d.1.2.2.1.1, d.2.1.1, d.2.1.2.1, d.2.1.2.2.1, d.2.1.2.2.2.1, d.2.2.1, d.2.2.2.1)
def e33_1q (base : Nat) (x : Z33_1q) (R : Type) (K : Ex → St → Option R) : Option R := K (.exit 4) (stOf base X0_33_1q (((), (), (x.1, ()), (), ()), ((x.2.1, x.2.2.1, x.2.2.2.1, x.2.2.2.2.1, ()), x.2.2.2.2.2.1, x.2.2.2.2.2.2, ())))
def L33_1q : LoopSum := ⟨I33_1q, O33_1q, Z33_1q, fun k d => c33_1q (knot_Most_L2 k k) d, e33_1q⟩
def I33_2q : Spec := ⟨[(3, .c (.lit (.ptr 1001000 0))), (6, .c (.lit (.osl 1001001 none))), (7, .c (.int .i64)), (8, .c (.lit (.osl 1001002 none)))], [.box true [.dat false y3q, .dat false (.sl (.int .i64)), .dat false (.int .i64), .dat false (.sl (.int .i64))], .arr true (.int .i64), .arr true y7q], []⟩
def X0_33_2q : Spec := ⟨[(6, .c (.lit (.osl 1001000 none))), (7, .c (.int .i64))], [.arr true (.int .i64)], []⟩
def O33_2q : List (Ex × Spec) := [(.ret, X0_33_2q)]
abbrev Z33_2q : Type := Int × (List Int)
def c33_2q (f : Int → List K2q → List (List Int) → List Int → List (List Int) → List Int → List K1q → Option Z33_2q) (d : I33_2q.den) : Option Z33_2q := f d.1.2.2.1.1 d.2.1.1 d.2.1.2.1 d.2.1.2.2.1 d.2.1.2.2.2.1 d.2.2.1 d.2.2.2.1
def T33_2q : OutD O33_2q → Z33_2q := fun d => (d.1.2.1.1, d.2.1)
def e33_2q (base : Nat) (x : Z33_2q) (R : Type) (K : Ex → St → Option R) : Option R := K .ret (stOf base X0_33_2q (((), (x.1, ()), ()), (x.2, ())))
def L33_2q : LoopSum := ⟨I33_2q, O33_2q, Z33_2q, fun k d => c33_2q (knot_Most_L1 k k) d, e33_2q⟩
def A33q : Notes := ⟨[], [(3, L33_0q), (12, L33_1q), (7, L33_2q)]⟩
theorem Eo33q : EnvOK E33q := ⟨eqOK_none, sumsOf_ok (List.forall_mem_cons.2 ⟨Ro10q, List.forall_mem_cons.2 ⟨Ro13q, List.forall_mem_cons.2 ⟨Ro17q, List.forall_mem_cons.2 ⟨Ro32q, List.forall_mem_nil _⟩⟩⟩⟩)⟩
theorem El33q : SumsLocal E33q.sums := sumsOf_local (List.forall_mem_cons.2 ⟨Rl10q, List.forall_mem_cons.2 ⟨Rl13q, List.forall_mem_cons.2 ⟨Rl17q, List.forall_mem_cons.2 ⟨Rl32q, List.forall_mem_nil _⟩⟩⟩⟩)
theorem st33_0q (k : Nat) (rec : Int → Int → Int → List K2q → List (List Int) → List Int → List (List Int) → List Int → List K1q → Option Z33_0q) (d : I33_0q.den) : c33_0q (knot_Most_L0b k rec) d = evC E33q A33q k 1000 0 55 (loopAt (bodyOf Proofs.Try.f15) 0) (stOf (1000 + loopBase) I33_0q d) (roundK 1000 I33_0q O33_0q T33_0q (c33_0q rec)) := by
  obtain ⟨⟨_, _, ⟨_, _⟩, _, ⟨_, _⟩, ⟨_, _⟩, _⟩, ⟨⟨_, _, _, _, _⟩, _, _, _⟩⟩ := d
  kernel_rfl
theorem lk33_0q : LoopOK Proofs.Try.prog 1000 0 55 (loopAt (bodyOf Proofs.Try.f15) 0) L33_0q :=
  loop_sound (A := A33q) (inS := I33_0q) (outs := O33_0q) Eo33q El33q mixed_orders (loopsOK_none (by kernel_rfl)) T33_0q e33_0q (fun _ _ _ => rfl) (fun k n d => c33_0q (knot_Most_L0 k n) d) (fun _ _ => rfl) (fun k n d => st33_0q k (knot_Most_L0 k n) d)
theorem st33_1q (k : Nat) (rec : Int → Int → Int → List K2q → List (List Int) → List Int → List (List Int) → List Int → List K1q → List Int → Option Z33_1q) (d : I33_1q.den) : c33_1q (knot_Most_L2b k rec) d = evC E33q A33q k 1000 0 55 (loopAt (loopAt (bodyOf Proofs.Try.f15) 1) 0) (stOf (1000 + loopBase) I33_1q d) (roundK 1000 I33_1q O33_1q T33_1q (c33_1q rec)) := by
  obtain ⟨⟨_, _, ⟨_, _⟩, _, _, ⟨_, _⟩, ⟨_, _⟩, _⟩, ⟨⟨_, _, _, _, _⟩, _, _, _, _⟩⟩ := d
  kernel_rfl
theorem lk33_1q : LoopOK Proofs.Try.prog 1000 0 55 (loopAt (loopAt (bodyOf Proofs.Try.f15) 1) 0) L33_1q :=
  loop_sound (A := A33q) (inS := I33_1q) (outs := O33_1q) Eo33q El33q mixed_orders (loopsOK_none (by kernel_rfl)) T33_1q e33_1q (fun _ _ _ => rfl) (fun k n d => c33_1q (knot_Most_L2 k n) d) (fun _ _ => rfl) (fun k n d => st33_1q k (knot_Most_L2 k n) d)
theorem st33_2q (k : Nat) (rec : Int → List K2q → List (List Int) → List Int → List (List Int) → List Int → List K1q → Option Z33_2q) (d : I33_2q.den) : c33_2q (knot_Most_L1b k rec) d = evC E33q A33q k 1000 0 55 (loopAt (bodyOf Proofs.Try.f15) 1) (stOf (1000 + loopBase) I33_2q d) (roundK 1000 I33_2q O33_2q T33_2q (c33_2q rec)) := by
  obtain ⟨⟨_, _, ⟨_, _⟩, _, _⟩, ⟨⟨_, _, _, _, _⟩, _, _, _⟩⟩ := d
  kernel_rfl
theorem lk33_2q : LoopOK Proofs.Try.prog 1000 0 55 (loopAt (bodyOf Proofs.Try.f15) 1) L33_2q :=
  loop_sound (A := A33q) (inS := I33_2q) (outs := O33_2q) Eo33q El33q mixed_orders (loopsOK_of (n := 1) (by kernel_rfl) fun i hi => match i, hi with | 0, _ => ⟨L33_1q, by kernel_rfl, lk33_1q⟩ | i + 1, hi => absurd hi (by omega)) T33_2q e33_2q (fun _ _ _ => rfl) (fun k n d => c33_2q (knot_Most_L1 k n) d) (fun _ _ => rfl) (fun k n d => st33_2q k (knot_Most_L1 k n) d)
def as33q : List AS := [.agg [.dat false y3q, .dat false (.sl (.int .i64)), .dat false (.int .i64), .dat false (.sl (.int .i64))], .c (.dat false y7q), .c (.int .i64)]
def rs33q : RS := .tup [(false, [.own (.int .i64)]), (false, [.int .i64])]
def pk33q : (List Int) × Int → RL rs33q.cells := fun x => (x.1, x.2, ())
def up33q : RL rs33q.cells → (List Int) × Int := fun d => (d.1, d.2.1)
def R33q : Nat × Entry := (15, fun k nm args h => entry as33q rs33q (fun d => knot_Most k d.1 d.2.1 d.2.2.1 d.2.2.2.1 d.2.2.2.2.1 d.2.2.2.2.2.1) pk33q nm args h)
theorem ev33q (k : Nat) (d : AD as33q) : evF E33q A33q k 1000 0 Proofs.Try.f15 (absArgs as33q d).1 (absArgs as33q d).2 (outM rs33q up33q) = knot_Most k d.1 d.2.1 d.2.2.1 d.2.2.2.1 d.2.2.2.2.1 d.2.2.2.2.2.1 := by
  obtain ⟨_, _, _, _, _, _, _⟩ := d
  kernel_rfl
theorem Ro33q : EntryOK Proofs.Try.prog R33q := fun k _ _ _ _ _ hy =>
  entry_sound (unpack := up33q) (A := A33q) (k := k) (pre := 1000) (na := 0) (E := E33q) Eo33q El33q mixed_orders (f := 15) (fn := Proofs.Try.f15) (by kernel_rfl) (body_loops (loopsOK_of (n := 2) (by kernel_rfl) fun i hi => match i, hi with | 0, _ => ⟨L33_0q, by kernel_rfl, lk33_0q⟩ | 1, _ => ⟨L33_2q, by kernel_rfl, lk33_2q⟩ | i + 2, hi => absurd hi (by omega))) (enters (fn := Proofs.Try.f15) (by kernel_rfl) (by kernel_rfl) (by kernel_rfl)) (fun _ => rfl) (ev33q k) hy
theorem Rl33q : EntryLocal R33q.2 := entry_local (S := fun k (d : AD as33q) => knot_Most k d.1 d.2.1 d.2.2.1 d.2.2.2.1 d.2.2.2.2.1 d.2.2.2.2.2.1)

/-! ### giro/giroref11.Ready -/
noncomputable def E34q : Env := ⟨Proofs.Try.prog, fun _ => false, sumsOf []⟩
def A34q : Notes := ⟨[], []⟩
theorem Eo34q : EnvOK E34q := ⟨eqOK_none, sumsOf_ok (List.forall_mem_nil _)⟩
theorem El34q : SumsLocal E34q.sums := sumsOf_local (List.forall_mem_nil _)
def as34q : List AS := [.agg [.int .i64, .int .i64, .int .i64, .int .i64, .int .i64, .int .i64, .int .i64], .c (.int .i64)]
def rs34q : RS := .c (.bool)
def pk34q : Bool → RL rs34q.cells := fun x => (x, ())
def up34q : RL rs34q.cells → Bool := fun d => d.1
def R34q : Nat × Entry := (61, fun k nm args h => entry as34q rs34q (fun d => giroref11_Ready k d.1 d.2.1 d.2.2.1 d.2.2.2.1 d.2.2.2.2.1 d.2.2.2.2.2.1 d.2.2.2.2.2.2.1 d.2.2.2.2.2.2.2.1) pk34q nm args h)
theorem ev34q (k : Nat) (d : AD as34q) : evF E34q A34q k 1000 0 Proofs.Try.f61 (absArgs as34q d).1 (absArgs as34q d).2 (outM rs34q up34q) = giroref11_Ready k d.1 d.2.1 d.2.2.1 d.2.2.2.1 d.2.2.2.2.1 d.2.2.2.2.2.1 d.2.2.2.2.2.2.1 d.2.2.2.2.2.2.2.1 := by
  obtain ⟨_, _, _, _, _, _, _, _, _⟩ := d
  kernel_rfl
theorem Ro34q : EntryOK Proofs.Try.prog R34q := fun k _ _ _ _ _ hy =>
  entry_sound (unpack := up34q) (A := A34q) (k := k) (pre := 1000) (na := 0) (E := E34q) Eo34q El34q mixed_orders (f := 61) (fn := Proofs.Try.f61) (by kernel_rfl) (body_loops (loopsOK_none (by kernel_rfl))) (enters (fn := Proofs.Try.f61) (by kernel_rfl) (by kernel_rfl) (by kernel_rfl)) (fun _ => rfl) (ev34q k) hy
theorem Rl34q : EntryLocal R34q.2 := entry_local (S := fun k (d : AD as34q) => giroref11_Ready k d.1 d.2.1 d.2.2.1 d.2.2.2.1 d.2.2.2.2.1 d.2.2.2.2.2.1 d.2.2.2.2.2.2.1 d.2.2.2.2.2.2.2.1)

/-! ### giro/giroref14.Ready -/
noncomputable def E35q : Env := ⟨Proofs.Try.prog, fun _ => false, sumsOf [R34q]⟩
def I35_0q : Spec := ⟨[(0, .c (.dat false y7q)), (1, .c (.int .i64)), (5, .c (.lit (.osl 1001000 none))), (6, .c (.int .i64))], [.arr true y7q], [(5, none, y7q, false)]⟩
def X0_35_0q : Spec := ⟨[(5, .c (.lit (.osl 1001000 none)))], [.arr true y7q], []⟩
def O35_0q : List (Ex × Spec) := [(.exit 0, X0_35_0q)]
abbrev Z35_0q : Type := List K1q
def c35_0q (f : List K1q → Int → Int → List K1q → Option Z35_0q) (d : I35_0q.den) : Option Z35_0q := f d.1.1.1 d.1.2.1.1 d.1.2.2.2.1.1 d.2.1
def T35_0q : OutD O35_0q → Z35_0q := fun d => d.2.1
def e35_0q (base : Nat) (x : Z35_0q) (R : Type) (K : Ex → St → Option R) : Option R := K (.exit 0) (stOf base X0_35_0q (((), ()), (x, ())))
def L35_0q : LoopSum := ⟨I35_0q, O35_0q, Z35_0q, fun k d => c35_0q (giroref14_Ready_L0 k k) d, e35_0q⟩
def A35q : Notes := ⟨[], [(3, L35_0q)]⟩
theorem Eo35q : EnvOK E35q := ⟨eqOK_none, sumsOf_ok (List.forall_mem_cons.2 ⟨Ro34q, List.forall_mem_nil _⟩)⟩
theorem El35q : SumsLocal E35q.sums := sumsOf_local (List.forall_mem_cons.2 ⟨Rl34q, List.forall_mem_nil _⟩)
theorem st35_0q (k : Nat) (rec : List K1q → Int → Int → List K1q → Option Z35_0q) (d : I35_0q.den) : c35_0q (giroref14_Ready_L0b k rec) d = evC E35q A35q k 1000 0 27 (loopAt (bodyOf Proofs.Try.f24) 0) (stOf (1000 + loopBase) I35_0q d) (roundK 1000 I35_0q O35_0q T35_0q (c35_0q rec)) := by
  obtain ⟨⟨⟨_, _⟩, ⟨_, _⟩, _, ⟨_, _⟩, _⟩, ⟨_, _⟩⟩ := d
  kernel_rfl
theorem lk35_0q : LoopOK Proofs.Try.prog 1000 0 27 (loopAt (bodyOf Proofs.Try.f24) 0) L35_0q :=
  loop_sound (A := A35q) (inS := I35_0q) (outs := O35_0q) Eo35q El35q mixed_orders (loopsOK_none (by kernel_rfl)) T35_0q e35_0q (fun _ _ _ => rfl) (fun k n d => c35_0q (giroref14_Ready_L0 k n) d) (fun _ _ => rfl) (fun k n d => st35_0q k (giroref14_Ready_L0 k n) d)
def as35q : List AS := [.c (.dat false y7q), .c (.int .i64)]
def rs35q : RS := .c (.own y7q)
def pk35q : List K1q → RL rs35q.cells := fun x => (x, ())
def up35q : RL rs35q.cells → List K1q := fun d => d.1
def R35q : Nat × Entry := (24, fun k nm args h => entry as35q rs35q (fun d => giroref14_Ready k d.1 d.2.1) pk35q nm args h)
theorem ev35q (k : Nat) (d : AD as35q) : evF E35q A35q k 1000 0 Proofs.Try.f24 (absArgs as35q d).1 (absArgs as35q d).2 (outM rs35q up35q) = giroref14_Ready k d.1 d.2.1 := by
  obtain ⟨_, _, _⟩ := d
  kernel_rfl
theorem Ro35q : EntryOK Proofs.Try.prog R35q := fun k _ _ _ _ _ hy =>
  entry_sound (unpack := up35q) (A := A35q) (k := k) (pre := 1000) (na := 0) (E := E35q) Eo35q El35q mixed_orders (f := 24) (fn := Proofs.Try.f24) (by kernel_rfl) (body_loops (loopsOK_of (n := 1) (by kernel_rfl) fun i hi => match i, hi with | 0, _ => ⟨L35_0q, by kernel_rfl, lk35_0q⟩ | i + 1, hi => absurd hi (by omega))) (enters (fn := Proofs.Try.f24) (by kernel_rfl) (by kernel_rfl) (by kernel_rfl)) (fun _ => rfl) (ev35q k) hy
theorem Rl35q : EntryLocal R35q.2 := entry_local (S := fun k (d : AD as35q) => giroref14_Ready k d.1 d.2.1)

/-! ### giro/giroref14.Of -/
noncomputable def E36q : Env := ⟨Proofs.Try.prog, fun _ => false, sumsOf []⟩
def I36_0q : Spec := ⟨[(0, .c (.dat false y7q)), (1, .c (.int .i64)), (5, .c (.lit (.osl 1001000 none))), (6, .c (.int .i64))], [.arr true y7q], [(5, none, y7q, false)]⟩
def X0_36_0q : Spec := ⟨[(5, .c (.lit (.osl 1001000 none)))], [.arr true y7q], []⟩
def O36_0q : List (Ex × Spec) := [(.exit 0, X0_36_0q)]
abbrev Z36_0q : Type := List K1q
def c36_0q (f : List K1q → Int → Int → List K1q → Option Z36_0q) (d : I36_0q.den) : Option Z36_0q := f d.1.1.1 d.1.2.1.1 d.1.2.2.2.1.1 d.2.1
def T36_0q : OutD O36_0q → Z36_0q := fun d => d.2.1
def e36_0q (base : Nat) (x : Z36_0q) (R : Type) (K : Ex → St → Option R) : Option R := K (.exit 0) (stOf base X0_36_0q (((), ()), (x, ())))
def L36_0q : LoopSum := ⟨I36_0q, O36_0q, Z36_0q, fun k d => c36_0q (giroref14_Of_L0 k k) d, e36_0q⟩
def A36q : Notes := ⟨[], [(3, L36_0q)]⟩
theorem Eo36q : EnvOK E36q := ⟨eqOK_none, sumsOf_ok (List.forall_mem_nil _)⟩
theorem El36q : SumsLocal E36q.sums := sumsOf_local (List.forall_mem_nil _)
theorem st36_0q (k : Nat) (rec : List K1q → Int → Int → List K1q → Option Z36_0q) (d : I36_0q.den) : c36_0q (giroref14_Of_L0b k rec) d = evC E36q A36q k 1000 0 28 (loopAt (bodyOf Proofs.Try.f27) 0) (stOf (1000 + loopBase) I36_0q d) (roundK 1000 I36_0q O36_0q T36_0q (c36_0q rec)) := by
  obtain ⟨⟨⟨_, _⟩, ⟨_, _⟩, _, ⟨_, _⟩, _⟩, ⟨_, _⟩⟩ := d
  kernel_rfl
theorem lk36_0q : LoopOK Proofs.Try.prog 1000 0 28 (loopAt (bodyOf Proofs.Try.f27) 0) L36_0q :=
  loop_sound (A := A36q) (inS := I36_0q) (outs := O36_0q) Eo36q El36q mixed_orders (loopsOK_none (by kernel_rfl)) T36_0q e36_0q (fun _ _ _ => rfl) (fun k n d => c36_0q (giroref14_Of_L0 k n) d) (fun _ _ => rfl) (fun k n d => st36_0q k (giroref14_Of_L0 k n) d)
def as36q : List AS := [.c (.dat false y7q), .c (.int .i64)]
def rs36q : RS := .c (.own y7q)
def pk36q : List K1q → RL rs36q.cells := fun x => (x, ())
def up36q : RL rs36q.cells → List K1q := fun d => d.1
def R36q : Nat × Entry := (27, fun k nm args h => entry as36q rs36q (fun d => giroref14_Of k d.1 d.2.1) pk36q nm args h)
theorem ev36q (k : Nat) (d : AD as36q) : evF E36q A36q k 1000 0 Proofs.Try.f27 (absArgs as36q d).1 (absArgs as36q d).2 (outM rs36q up36q) = giroref14_Of k d.1 d.2.1 := by
  obtain ⟨_, _, _⟩ := d
  kernel_rfl
theorem Ro36q : EntryOK Proofs.Try.prog R36q := fun k _ _ _ _ _ hy =>
  entry_sound (unpack := up36q) (A := A36q) (k := k) (pre := 1000) (na := 0) (E := E36q) Eo36q El36q mixed_orders (f := 27) (fn := Proofs.Try.f27) (by kernel_rfl) (body_loops (loopsOK_of (n := 1) (by kernel_rfl) fun i hi => match i, hi with | 0, _ => ⟨L36_0q, by kernel_rfl, lk36_0q⟩ | i + 1, hi => absurd hi (by omega))) (enters (fn := Proofs.Try.f27) (by kernel_rfl) (by kernel_rfl) (by kernel_rfl)) (fun _ => rfl) (ev36q k) hy
theorem Rl36q : EntryLocal R36q.2 := entry_local (S := fun k (d : AD as36q) => giroref14_Of k d.1 d.2.1)

/-! ### giro/giroref15.classed -/
noncomputable def E38q : Env := ⟨Proofs.Try.prog, fun _ => false, sumsOf []⟩
def I38_0q : Spec := ⟨[(0, .c (.dat false y7q)), (1, .c (.int .i64)), (6, .c (.int .i64)), (7, .c (.int .i64)), (8, .c (.int .i64))], [], []⟩
def X0_38_0q : Spec := ⟨[(6, .c (.int .i64)), (7, .c (.int .i64))], [], []⟩
def O38_0q : List (Ex × Spec) := [(.exit 0, X0_38_0q)]
abbrev Z38_0q : Type := Int × Int
def c38_0q (f : List K1q → Int → Int → Int → Int → Option Z38_0q) (d : I38_0q.den) : Option Z38_0q := f d.1.1.1 d.1.2.1.1 d.1.2.2.1.1 d.1.2.2.2.1.1 d.1.2.2.2.2.1.1
def T38_0q : OutD O38_0q → Z38_0q := fun d => (d.1.1.1, d.1.2.1.1)
def e38_0q (base : Nat) (x : Z38_0q) (R : Type) (K : Ex → St → Option R) : Option R := K (.exit 0) (stOf base X0_38_0q (((x.1, ()), (x.2, ()), ()), ()))
def L38_0q : LoopSum := ⟨I38_0q, O38_0q, Z38_0q, fun k d => c38_0q (giroref15_classed_L0 k k) d, e38_0q⟩
def A38q : Notes := ⟨[], [(3, L38_0q)]⟩
theorem Eo38q : EnvOK E38q := ⟨eqOK_none, sumsOf_ok (List.forall_mem_nil _)⟩
theorem El38q : SumsLocal E38q.sums := sumsOf_local (List.forall_mem_nil _)
theorem st38_0q (k : Nat) (rec : List K1q → Int → Int → Int → Int → Option Z38_0q) (d : I38_0q.den) : c38_0q (giroref15_classed_L0b k rec) d = evC E38q A38q k 1000 0 46 (loopAt (bodyOf Proofs.Try.f103) 0) (stOf (1000 + loopBase) I38_0q d) (roundK 1000 I38_0q O38_0q T38_0q (c38_0q rec)) := by
  obtain ⟨⟨⟨_, _⟩, ⟨_, _⟩, ⟨_, _⟩, ⟨_, _⟩, ⟨_, _⟩, _⟩, _⟩ := d
  kernel_rfl
theorem lk38_0q : LoopOK Proofs.Try.prog 1000 0 46 (loopAt (bodyOf Proofs.Try.f103) 0) L38_0q :=
  loop_sound (A := A38q) (inS := I38_0q) (outs := O38_0q) Eo38q El38q mixed_orders (loopsOK_none (by kernel_rfl)) T38_0q e38_0q (fun _ _ _ => rfl) (fun k n d => c38_0q (giroref15_classed_L0 k n) d) (fun _ _ => rfl) (fun k n d => st38_0q k (giroref15_classed_L0 k n) d)
def as38q : List AS := [.c (.dat false y7q), .c (.int .i64)]
def rs38q : RS := .tup [(false, [.int .i64]), (false, [.int .i64])]
def pk38q : Int × Int → RL rs38q.cells := fun x => (x.1, x.2, ())
def up38q : RL rs38q.cells → Int × Int := fun d => (d.1, d.2.1)
def R38q : Nat × Entry := (103, fun k nm args h => entry as38q rs38q (fun d => giroref15_classed k d.1 d.2.1) pk38q nm args h)
theorem ev38q (k : Nat) (d : AD as38q) : evF E38q A38q k 1000 0 Proofs.Try.f103 (absArgs as38q d).1 (absArgs as38q d).2 (outM rs38q up38q) = giroref15_classed k d.1 d.2.1 := by
  obtain ⟨_, _, _⟩ := d
  kernel_rfl
theorem Ro38q : EntryOK Proofs.Try.prog R38q := fun k _ _ _ _ _ hy =>
  entry_sound (unpack := up38q) (A := A38q) (k := k) (pre := 1000) (na := 0) (E := E38q) Eo38q El38q mixed_orders (f := 103) (fn := Proofs.Try.f103) (by kernel_rfl) (body_loops (loopsOK_of (n := 1) (by kernel_rfl) fun i hi => match i, hi with | 0, _ => ⟨L38_0q, by kernel_rfl, lk38_0q⟩ | i + 1, hi => absurd hi (by omega))) (enters (fn := Proofs.Try.f103) (by kernel_rfl) (by kernel_rfl) (by kernel_rfl)) (fun _ => rfl) (ev38q k) hy
theorem Rl38q : EntryLocal R38q.2 := entry_local (S := fun k (d : AD as38q) => giroref15_classed k d.1 d.2.1)

/-! ### giro/giroref10.Net -/
noncomputable def E39q : Env := ⟨Proofs.Try.prog, fun _ => false, sumsOf []⟩
def I39_0q : Spec := ⟨[(1, .c (.int .i64)), (2, .c (.lit (.ptr 1001000 0))), (5, .c (.int .i64)), (6, .c (.int .i64))], [.box true [.dat false y3q, .dat false (.sl (.int .i64)), .dat false (.int .i64), .dat false (.sl (.int .i64))]], []⟩
def X0_39_0q : Spec := ⟨[(5, .c (.int .i64))], [], []⟩
def O39_0q : List (Ex × Spec) := [(.exit 0, X0_39_0q)]
abbrev Z39_0q : Type := Int
def c39_0q (f : Int → Int → Int → List K2q → List (List Int) → List Int → List (List Int) → Option Z39_0q) (d : I39_0q.den) : Option Z39_0q := f d.1.1.1 d.1.2.2.1.1 d.1.2.2.2.1.1 d.2.1.1 d.2.1.2.1 d.2.1.2.2.1 d.2.1.2.2.2.1
def T39_0q : OutD O39_0q → Z39_0q := fun d => d.1.1.1
def e39_0q (base : Nat) (x : Z39_0q) (R : Type) (K : Ex → St → Option R) : Option R := K (.exit 0) (stOf base X0_39_0q (((x, ()), ()), ()))
def L39_0q : LoopSum := ⟨I39_0q, O39_0q, Z39_0q, fun k d => c39_0q (giroref10_Net_L0 k k) d, e39_0q⟩
def A39q : Notes := ⟨[], [(3, L39_0q)]⟩
theorem Eo39q : EnvOK E39q := ⟨eqOK_none, sumsOf_ok (List.forall_mem_nil _)⟩
theorem El39q : SumsLocal E39q.sums := sumsOf_local (List.forall_mem_nil _)
theorem st39_0q (k : Nat) (rec : Int → Int → Int → List K2q → List (List Int) → List Int → List (List Int) → Option Z39_0q) (d : I39_0q.den) : c39_0q (giroref10_Net_L0b k rec) d = evC E39q A39q k 1000 0 28 (loopAt (bodyOf Proofs.Try.f113) 0) (stOf (1000 + loopBase) I39_0q d) (roundK 1000 I39_0q O39_0q T39_0q (c39_0q rec)) := by
  obtain ⟨⟨⟨_, _⟩, _, ⟨_, _⟩, ⟨_, _⟩, _⟩, ⟨⟨_, _, _, _, _⟩, _⟩⟩ := d
  kernel_rfl
theorem lk39_0q : LoopOK Proofs.Try.prog 1000 0 28 (loopAt (bodyOf Proofs.Try.f113) 0) L39_0q :=
  loop_sound (A := A39q) (inS := I39_0q) (outs := O39_0q) Eo39q El39q mixed_orders (loopsOK_none (by kernel_rfl)) T39_0q e39_0q (fun _ _ _ => rfl) (fun k n d => c39_0q (giroref10_Net_L0 k n) d) (fun _ _ => rfl) (fun k n d => st39_0q k (giroref10_Net_L0 k n) d)
def as39q : List AS := [.agg [.dat false y3q, .dat false (.sl (.int .i64)), .dat false (.int .i64), .dat false (.sl (.int .i64))], .c (.int .i64)]
def rs39q : RS := .c (.int .i64)
def pk39q : Int → RL rs39q.cells := fun x => (x, ())
def up39q : RL rs39q.cells → Int := fun d => d.1
def R39q : Nat × Entry := (113, fun k nm args h => entry as39q rs39q (fun d => giroref10_Net k d.1 d.2.1 d.2.2.1 d.2.2.2.1 d.2.2.2.2.1) pk39q nm args h)
theorem ev39q (k : Nat) (d : AD as39q) : evF E39q A39q k 1000 0 Proofs.Try.f113 (absArgs as39q d).1 (absArgs as39q d).2 (outM rs39q up39q) = giroref10_Net k d.1 d.2.1 d.2.2.1 d.2.2.2.1 d.2.2.2.2.1 := by
  obtain ⟨_, _, _, _, _, _⟩ := d
  kernel_rfl
theorem Ro39q : EntryOK Proofs.Try.prog R39q := fun k _ _ _ _ _ hy =>
  entry_sound (unpack := up39q) (A := A39q) (k := k) (pre := 1000) (na := 0) (E := E39q) Eo39q El39q mixed_orders (f := 113) (fn := Proofs.Try.f113) (by kernel_rfl) (body_loops (loopsOK_of (n := 1) (by kernel_rfl) fun i hi => match i, hi with | 0, _ => ⟨L39_0q, by kernel_rfl, lk39_0q⟩ | i + 1, hi => absurd hi (by omega))) (enters (fn := Proofs.Try.f113) (by kernel_rfl) (by kernel_rfl) (by kernel_rfl)) (fun _ => rfl) (ev39q k) hy
theorem Rl39q : EntryLocal R39q.2 := entry_local (S := fun k (d : AD as39q) => giroref10_Net k d.1 d.2.1 d.2.2.1 d.2.2.2.1 d.2.2.2.2.1)

/-! ### giro/giroref15.sent -/
noncomputable def E40q : Env := ⟨Proofs.Try.prog, fun _ => false, sumsOf []⟩
def I40_0q : Spec := ⟨[(0, .c (.dat false y7q)), (1, .c (.int .i64)), (2, .c (.int .i64)), (7, .c (.int .i64)), (8, .c (.int .i64))], [], []⟩
def X0_40_0q : Spec := ⟨[(7, .c (.int .i64))], [], []⟩
def O40_0q : List (Ex × Spec) := [(.exit 0, X0_40_0q)]
abbrev Z40_0q : Type := Int
def c40_0q (f : List K1q → Int → Int → Int → Int → Option Z40_0q) (d : I40_0q.den) : Option Z40_0q := f d.1.1.1 d.1.2.1.1 d.1.2.2.1.1 d.1.2.2.2.1.1 d.1.2.2.2.2.1.1
def T40_0q : OutD O40_0q → Z40_0q := fun d => d.1.1.1
def e40_0q (base : Nat) (x : Z40_0q) (R : Type) (K : Ex → St → Option R) : Option R := K (.exit 0) (stOf base X0_40_0q (((x, ()), ()), ()))
def L40_0q : LoopSum := ⟨I40_0q, O40_0q, Z40_0q, fun k d => c40_0q (giroref15_sent_L0 k k) d, e40_0q⟩
def A40q : Notes := ⟨[], [(3, L40_0q)]⟩
theorem Eo40q : EnvOK E40q := ⟨eqOK_none, sumsOf_ok (List.forall_mem_nil _)⟩
theorem El40q : SumsLocal E40q.sums := sumsOf_local (List.forall_mem_nil _)
theorem st40_0q (k : Nat) (rec : List K1q → Int → Int → Int → Int → Option Z40_0q) (d : I40_0q.den) : c40_0q (giroref15_sent_L0b k rec) d = evC E40q A40q k 1000 0 39 (loopAt (bodyOf Proofs.Try.f104) 0) (stOf (1000 + loopBase) I40_0q d) (roundK 1000 I40_0q O40_0q T40_0q (c40_0q rec)) := by
  obtain ⟨⟨⟨_, _⟩, ⟨_, _⟩, ⟨_, _⟩, ⟨_, _⟩, ⟨_, _⟩, _⟩, _⟩ := d
  kernel_rfl
theorem lk40_0q : LoopOK Proofs.Try.prog 1000 0 39 (loopAt (bodyOf Proofs.Try.f104) 0) L40_0q :=
  loop_sound (A := A40q) (inS := I40_0q) (outs := O40_0q) Eo40q El40q mixed_orders (loopsOK_none (by kernel_rfl)) T40_0q e40_0q (fun _ _ _ => rfl) (fun k n d => c40_0q (giroref15_sent_L0 k n) d) (fun _ _ => rfl) (fun k n d => st40_0q k (giroref15_sent_L0 k n) d)
def as40q : List AS := [.c (.dat false y7q), .c (.int .i64), .c (.int .i64)]
def rs40q : RS := .c (.int .i64)
def pk40q : Int → RL rs40q.cells := fun x => (x, ())
def up40q : RL rs40q.cells → Int := fun d => d.1
def R40q : Nat × Entry := (104, fun k nm args h => entry as40q rs40q (fun d => giroref15_sent k d.1 d.2.1 d.2.2.1) pk40q nm args h)
theorem ev40q (k : Nat) (d : AD as40q) : evF E40q A40q k 1000 0 Proofs.Try.f104 (absArgs as40q d).1 (absArgs as40q d).2 (outM rs40q up40q) = giroref15_sent k d.1 d.2.1 d.2.2.1 := by
  obtain ⟨_, _, _, _⟩ := d
  kernel_rfl
theorem Ro40q : EntryOK Proofs.Try.prog R40q := fun k _ _ _ _ _ hy =>
  entry_sound (unpack := up40q) (A := A40q) (k := k) (pre := 1000) (na := 0) (E := E40q) Eo40q El40q mixed_orders (f := 104) (fn := Proofs.Try.f104) (by kernel_rfl) (body_loops (loopsOK_of (n := 1) (by kernel_rfl) fun i hi => match i, hi with | 0, _ => ⟨L40_0q, by kernel_rfl, lk40_0q⟩ | i + 1, hi => absurd hi (by omega))) (enters (fn := Proofs.Try.f104) (by kernel_rfl) (by kernel_rfl) (by kernel_rfl)) (fun _ => rfl) (ev40q k) hy
theorem Rl40q : EntryLocal R40q.2 := entry_local (S := fun k (d : AD as40q) => giroref15_sent k d.1 d.2.1 d.2.2.1)

/-! ### giro/giroref9.Kept -/
noncomputable def E41q : Env := ⟨Proofs.Try.prog, fun _ => false, sumsOf []⟩
def A41q : Notes := ⟨[], []⟩
theorem Eo41q : EnvOK E41q := ⟨eqOK_none, sumsOf_ok (List.forall_mem_nil _)⟩
theorem El41q : SumsLocal E41q.sums := sumsOf_local (List.forall_mem_nil _)
def as41q : List AS := [.agg [.int .i64, .int .i64, .int .i64], .c (.int .i64)]
def rs41q : RS := .c (.int .i64)
def pk41q : Int → RL rs41q.cells := fun x => (x, ())
def up41q : RL rs41q.cells → Int := fun d => d.1
def R41q : Nat × Entry := (63, fun k nm args h => entry as41q rs41q (fun d => giroref9_Kept k d.1 d.2.1 d.2.2.1 d.2.2.2.1) pk41q nm args h)
theorem ev41q (k : Nat) (d : AD as41q) : evF E41q A41q k 1000 0 Proofs.Try.f63 (absArgs as41q d).1 (absArgs as41q d).2 (outM rs41q up41q) = giroref9_Kept k d.1 d.2.1 d.2.2.1 d.2.2.2.1 := by
  obtain ⟨_, _, _, _, _⟩ := d
  kernel_rfl
theorem Ro41q : EntryOK Proofs.Try.prog R41q := fun k _ _ _ _ _ hy =>
  entry_sound (unpack := up41q) (A := A41q) (k := k) (pre := 1000) (na := 0) (E := E41q) Eo41q El41q mixed_orders (f := 63) (fn := Proofs.Try.f63) (by kernel_rfl) (body_loops (loopsOK_none (by kernel_rfl))) (enters (fn := Proofs.Try.f63) (by kernel_rfl) (by kernel_rfl) (by kernel_rfl)) (fun _ => rfl) (ev41q k) hy
theorem Rl41q : EntryLocal R41q.2 := entry_local (S := fun k (d : AD as41q) => giroref9_Kept k d.1 d.2.1 d.2.2.1 d.2.2.2.1)

/-! ### giro/giroref15.short -/
noncomputable def E42q : Env := ⟨Proofs.Try.prog, fun _ => false, sumsOf [R38q, R39q, R40q, R41q]⟩
def I42_0q : Spec := ⟨[(1, .c (.dat false y7q)), (2, .c (.int .i64)), (3, .c (.lit (.ptr 1001000 0))), (7, .c (.int .i64)), (8, .c (.int .i64)), (9, .c (.int .i64)), (10, .c (.int .i64)), (11, .c (.int .i64))], [.box true [.dat false y3q, .dat false (.sl (.int .i64)), .dat false (.int .i64), .dat false (.sl (.int .i64))]], []⟩
def X0_42_0q : Spec := ⟨[(2, .c (.int .i64)), (3, .c (.lit (.ptr 1001000 0))), (7, .c (.int .i64)), (8, .c (.int .i64)), (9, .c (.int .i64)), (10, .c (.int .i64))], [.box true [.dat false y3q, .dat false (.sl (.int .i64)), .dat false (.int .i64), .dat false (.sl (.int .i64))]], []⟩
def X1_42_0q : Spec := ⟨[(6, .c (.bool))], [], []⟩
def O42_0q : List (Ex × Spec) := [(.exit 0, X0_42_0q), (.ret, X1_42_0q)]
abbrev Z42_0q : Type := (Int × Int × Int × Int × Int × (List K2q) × (List (List Int)) × (List Int) × (List (List Int))) ⊕ Bool
def c42_0q (f : List K1q → Int → Int → Int → Int → Int → Int → List K2q → List (List Int) → List Int → List (List Int) → Option Z42_0q) (d : I42_0q.den) : Option Z42_0q := f d.1.1.1 d.1.2.1.1 d.1.2.2.2.1.1 d.1.2.2.2.2.1.1 d.1.2.2.2.2.2.1.1 d.1.2.2.2.2.2.2.1.1 d.1.2.2.2.2.2.2.2.1.1 d.2.1.1 d.2.1.2.1 d.2.1.2.2.1 d.2.1.2.2.2.1
def T42_0q : OutD O42_0q → Z42_0q
 | .inl d => .inl (d.1.1.1, d.1.2.2.1.1, d.1.2.2.2.1.1, d.1.2.2.2.2.1.1, d.1.2.2.2.2.2.1.1, d.2.1.1, d.2.1.2.1, d.2.1.2.2.1, d.2.1.2.2.2.1)
 | .inr d => .inr d.1.1.1
def e42_0q (base : Nat) (x : Z42_0q) (R : Type) (K : Ex → St → Option R) : Option R := match x with
 | .inl x => K (.exit 0) (stOf base X0_42_0q (((x.1, ()), (), (x.2.1, ()), (x.2.2.1, ()), (x.2.2.2.1, ()), (x.2.2.2.2.1, ()), ()), ((x.2.2.2.2.2.1, x.2.2.2.2.2.2.1, x.2.2.2.2.2.2.2.1, x.2.2.2.2.2.2.2.2, ()), ())))
 | .inr x => K .ret (stOf base X1_42_0q (((x, ()), ()), ()))
def L42_0q : LoopSum := ⟨I42_0q, O42_0q, Z42_0q, fun k d => c42_0q (giroref15_short_L0 k k) d, e42_0q⟩
def A42q : Notes := ⟨[], [(7, L42_0q)]⟩
theorem Eo42q : EnvOK E42q := ⟨eqOK_none, sumsOf_ok (List.forall_mem_cons.2 ⟨Ro38q, List.forall_mem_cons.2 ⟨Ro39q, List.forall_mem_cons.2 ⟨Ro40q, List.forall_mem_cons.2 ⟨Ro41q, List.forall_mem_nil _⟩⟩⟩⟩)⟩
theorem El42q : SumsLocal E42q.sums := sumsOf_local (List.forall_mem_cons.2 ⟨Rl38q, List.forall_mem_cons.2 ⟨Rl39q, List.forall_mem_cons.2 ⟨Rl40q, List.forall_mem_cons.2 ⟨Rl41q, List.forall_mem_nil _⟩⟩⟩⟩)
theorem st42_0q (k : Nat) (rec : List K1q → Int → Int → Int → Int → Int → Int → List K2q → List (List Int) → List Int → List (List Int) → Option Z42_0q) (d : I42_0q.den) : c42_0q (giroref15_short_L0b k rec) d = evC E42q A42q k 1000 0 130 (loopAt (bodyOf Proofs.Try.f93) 0) (stOf (1000 + loopBase) I42_0q d) (roundK 1000 I42_0q O42_0q T42_0q (c42_0q rec)) := by
  obtain ⟨⟨⟨_, _⟩, ⟨_, _⟩, _, ⟨_, _⟩, ⟨_, _⟩, ⟨_, _⟩, ⟨_, _⟩, ⟨_, _⟩, _⟩, ⟨⟨_, _, _, _, _⟩, _⟩⟩ := d
  kernel_rfl
theorem lk42_0q : LoopOK Proofs.Try.prog 1000 0 130 (loopAt (bodyOf Proofs.Try.f93) 0) L42_0q :=
  loop_sound (A := A42q) (inS := I42_0q) (outs := O42_0q) Eo42q El42q mixed_orders (loopsOK_none (by kernel_rfl)) T42_0q e42_0q (by intro o R K; rcases o with o | o <;> rfl) (fun k n d => c42_0q (giroref15_short_L0 k n) d) (fun _ _ => rfl) (fun k n d => st42_0q k (giroref15_short_L0 k n) d)
def as42q : List AS := [.agg [.dat false y3q, .dat false (.sl (.int .i64)), .dat false (.int .i64), .dat false (.sl (.int .i64))], .c (.dat false y7q), .c (.int .i64)]
def rs42q : RS := .c (.bool)
def pk42q : Bool → RL rs42q.cells := fun x => (x, ())
def up42q : RL rs42q.cells → Bool := fun d => d.1
def R42q : Nat × Entry := (93, fun k nm args h => entry as42q rs42q (fun d => giroref15_short k d.1 d.2.1 d.2.2.1 d.2.2.2.1 d.2.2.2.2.1 d.2.2.2.2.2.1) pk42q nm args h)
theorem ev42q (k : Nat) (d : AD as42q) : evF E42q A42q k 1000 0 Proofs.Try.f93 (absArgs as42q d).1 (absArgs as42q d).2 (outM rs42q up42q) = giroref15_short k d.1 d.2.1 d.2.2.1 d.2.2.2.1 d.2.2.2.2.1 d.2.2.2.2.2.1 := by
  obtain ⟨_, _, _, _, _, _, _⟩ := d
  kernel_rfl
theorem Ro42q : EntryOK Proofs.Try.prog R42q := fun k _ _ _ _ _ hy =>
  entry_sound (unpack := up42q) (A := A42q) (k := k) (pre := 1000) (na := 0) (E := E42q) Eo42q El42q mixed_orders (f := 93) (fn := Proofs.Try.f93) (by kernel_rfl) (body_loops (loopsOK_of (n := 1) (by kernel_rfl) fun i hi => match i, hi with | 0, _ => ⟨L42_0q, by kernel_rfl, lk42_0q⟩ | i + 1, hi => absurd hi (by omega))) (enters (fn := Proofs.Try.f93) (by kernel_rfl) (by kernel_rfl) (by kernel_rfl)) (fun _ => rfl) (ev42q k) hy
theorem Rl42q : EntryLocal R42q.2 := entry_local (S := fun k (d : AD as42q) => giroref15_short k d.1 d.2.1 d.2.2.1 d.2.2.2.1 d.2.2.2.2.1 d.2.2.2.2.2.1)

/-! ### giro/giroref15.Short -/
noncomputable def E43q : Env := ⟨Proofs.Try.prog, fun _ => false, sumsOf [R42q]⟩
def I43_0q : Spec := ⟨[(1, .c (.dat false y7q)), (2, .c (.lit (.ptr 1001000 0))), (5, .c (.lit (.osl 1001001 none))), (6, .c (.int .i64))], [.box true [.dat false y3q, .dat false (.sl (.int .i64)), .dat false (.int .i64), .dat false (.sl (.int .i64))], .arr true (.int .i64)], [(5, none, (.int .i64), false)]⟩
def X0_43_0q : Spec := ⟨[(5, .c (.lit (.osl 1001000 none)))], [.arr true (.int .i64)], []⟩
def O43_0q : List (Ex × Spec) := [(.exit 0, X0_43_0q)]
abbrev Z43_0q : Type := List Int
def c43_0q (f : List K1q → Int → List K2q → List (List Int) → List Int → List (List Int) → List Int → Option Z43_0q) (d : I43_0q.den) : Option Z43_0q := f d.1.1.1 d.1.2.2.2.1.1 d.2.1.1 d.2.1.2.1 d.2.1.2.2.1 d.2.1.2.2.2.1 d.2.2.1
def T43_0q : OutD O43_0q → Z43_0q := fun d => d.2.1
def e43_0q (base : Nat) (x : Z43_0q) (R : Type) (K : Ex → St → Option R) : Option R := K (.exit 0) (stOf base X0_43_0q (((), ()), (x, ())))
def L43_0q : LoopSum := ⟨I43_0q, O43_0q, Z43_0q, fun k d => c43_0q (giroref15_Short_L0 k k) d, e43_0q⟩
def A43q : Notes := ⟨[], [(3, L43_0q)]⟩
theorem Eo43q : EnvOK E43q := ⟨eqOK_none, sumsOf_ok (List.forall_mem_cons.2 ⟨Ro42q, List.forall_mem_nil _⟩)⟩
theorem El43q : SumsLocal E43q.sums := sumsOf_local (List.forall_mem_cons.2 ⟨Rl42q, List.forall_mem_nil _⟩)
theorem st43_0q (k : Nat) (rec : List K1q → Int → List K2q → List (List Int) → List Int → List (List Int) → List Int → Option Z43_0q) (d : I43_0q.den) : c43_0q (giroref15_Short_L0b k rec) d = evC E43q A43q k 1000 0 23 (loopAt (bodyOf Proofs.Try.f52) 0) (stOf (1000 + loopBase) I43_0q d) (roundK 1000 I43_0q O43_0q T43_0q (c43_0q rec)) := by
  obtain ⟨⟨⟨_, _⟩, _, _, ⟨_, _⟩, _⟩, ⟨⟨_, _, _, _, _⟩, _, _⟩⟩ := d
  kernel_rfl
theorem lk43_0q : LoopOK Proofs.Try.prog 1000 0 23 (loopAt (bodyOf Proofs.Try.f52) 0) L43_0q :=
  loop_sound (A := A43q) (inS := I43_0q) (outs := O43_0q) Eo43q El43q mixed_orders (loopsOK_none (by kernel_rfl)) T43_0q e43_0q (fun _ _ _ => rfl) (fun k n d => c43_0q (giroref15_Short_L0 k n) d) (fun _ _ => rfl) (fun k n d => st43_0q k (giroref15_Short_L0 k n) d)
def as43q : List AS := [.agg [.dat false y3q, .dat false (.sl (.int .i64)), .dat false (.int .i64), .dat false (.sl (.int .i64))], .c (.dat false y7q)]
def rs43q : RS := .c (.own (.int .i64))
def pk43q : List Int → RL rs43q.cells := fun x => (x, ())
def up43q : RL rs43q.cells → List Int := fun d => d.1
def R43q : Nat × Entry := (52, fun k nm args h => entry as43q rs43q (fun d => giroref15_Short k d.1 d.2.1 d.2.2.1 d.2.2.2.1 d.2.2.2.2.1) pk43q nm args h)
theorem ev43q (k : Nat) (d : AD as43q) : evF E43q A43q k 1000 0 Proofs.Try.f52 (absArgs as43q d).1 (absArgs as43q d).2 (outM rs43q up43q) = giroref15_Short k d.1 d.2.1 d.2.2.1 d.2.2.2.1 d.2.2.2.2.1 := by
  obtain ⟨_, _, _, _, _, _⟩ := d
  kernel_rfl
theorem Ro43q : EntryOK Proofs.Try.prog R43q := fun k _ _ _ _ _ hy =>
  entry_sound (unpack := up43q) (A := A43q) (k := k) (pre := 1000) (na := 0) (E := E43q) Eo43q El43q mixed_orders (f := 52) (fn := Proofs.Try.f52) (by kernel_rfl) (body_loops (loopsOK_of (n := 1) (by kernel_rfl) fun i hi => match i, hi with | 0, _ => ⟨L43_0q, by kernel_rfl, lk43_0q⟩ | i + 1, hi => absurd hi (by omega))) (enters (fn := Proofs.Try.f52) (by kernel_rfl) (by kernel_rfl) (by kernel_rfl)) (fun _ => rfl) (ev43q k) hy
theorem Rl43q : EntryLocal R43q.2 := entry_local (S := fun k (d : AD as43q) => giroref15_Short k d.1 d.2.1 d.2.2.1 d.2.2.2.1 d.2.2.2.2.1)

/-! ### giro/fits.May -/
noncomputable def E45q : Env := ⟨Proofs.Try.prog, fun _ => false, sumsOf []⟩
def A45q : Notes := ⟨[], []⟩
theorem Eo45q : EnvOK E45q := ⟨eqOK_none, sumsOf_ok (List.forall_mem_nil _)⟩
theorem El45q : SumsLocal E45q.sums := sumsOf_local (List.forall_mem_nil _)
def as45q : List AS := [.agg [.dat false y3q, .dat false (.sl (.int .i64)), .dat false (.int .i64), .dat false (.sl (.int .i64))], .agg [.int .i64, .int .i64, .int .i64, .int .i64, .int .i64, .int .i64, .int .i64]]
def rs45q : RS := .c (.bool)
def pk45q : Bool → RL rs45q.cells := fun x => (x, ())
def up45q : RL rs45q.cells → Bool := fun d => d.1
def R45q : Nat × Entry := (95, fun k nm args h => entry as45q rs45q (fun d => fits_May k d.1 d.2.1 d.2.2.1 d.2.2.2.1 d.2.2.2.2.1 d.2.2.2.2.2.1 d.2.2.2.2.2.2.1 d.2.2.2.2.2.2.2.1 d.2.2.2.2.2.2.2.2.1 d.2.2.2.2.2.2.2.2.2.1 d.2.2.2.2.2.2.2.2.2.2.1) pk45q nm args h)
theorem ev45q (k : Nat) (d : AD as45q) : evF E45q A45q k 1000 0 Proofs.Try.f95 (absArgs as45q d).1 (absArgs as45q d).2 (outM rs45q up45q) = fits_May k d.1 d.2.1 d.2.2.1 d.2.2.2.1 d.2.2.2.2.1 d.2.2.2.2.2.1 d.2.2.2.2.2.2.1 d.2.2.2.2.2.2.2.1 d.2.2.2.2.2.2.2.2.1 d.2.2.2.2.2.2.2.2.2.1 d.2.2.2.2.2.2.2.2.2.2.1 := by
  obtain ⟨_, _, _, _, _, _, _, _, _, _, _, _⟩ := d
  kernel_rfl
theorem Ro45q : EntryOK Proofs.Try.prog R45q := fun k _ _ _ _ _ hy =>
  entry_sound (unpack := up45q) (A := A45q) (k := k) (pre := 1000) (na := 0) (E := E45q) Eo45q El45q mixed_orders (f := 95) (fn := Proofs.Try.f95) (by kernel_rfl) (body_loops (loopsOK_none (by kernel_rfl))) (enters (fn := Proofs.Try.f95) (by kernel_rfl) (by kernel_rfl) (by kernel_rfl)) (fun _ => rfl) (ev45q k) hy
theorem Rl45q : EntryLocal R45q.2 := entry_local (S := fun k (d : AD as45q) => fits_May k d.1 d.2.1 d.2.2.1 d.2.2.2.1 d.2.2.2.2.1 d.2.2.2.2.2.1 d.2.2.2.2.2.2.1 d.2.2.2.2.2.2.2.1 d.2.2.2.2.2.2.2.2.1 d.2.2.2.2.2.2.2.2.2.1 d.2.2.2.2.2.2.2.2.2.2.1)

/-! ### giro/post.Post$1 -/
noncomputable def E46q : Env := ⟨Proofs.Try.prog, fun _ => false, sumsOf [R45q]⟩
def A46q : Notes := ⟨[], []⟩
theorem Eo46q : EnvOK E46q := ⟨eqOK_none, sumsOf_ok (List.forall_mem_cons.2 ⟨Ro45q, List.forall_mem_nil _⟩)⟩
theorem El46q : SumsLocal E46q.sums := sumsOf_local (List.forall_mem_cons.2 ⟨Rl45q, List.forall_mem_nil _⟩)
def as46q : List AS := [.agg [.int .i64, .int .i64, .int .i64, .int .i64, .int .i64, .int .i64, .int .i64], .ptr [.dat false y3q, .dat false (.sl (.int .i64)), .dat false (.int .i64), .dat false (.sl (.int .i64))]]
def rs46q : RS := .c (.bool)
def pk46q : Bool → RL rs46q.cells := fun x => (x, ())
def up46q : RL rs46q.cells → Bool := fun d => d.1
def R46q : Nat × Entry := (94, fun k nm args h => entry as46q rs46q (fun d => post_Post_fn1 k d.1 d.2.1 d.2.2.1 d.2.2.2.1 d.2.2.2.2.1 d.2.2.2.2.2.1 d.2.2.2.2.2.2.1 d.2.2.2.2.2.2.2.1 d.2.2.2.2.2.2.2.2.1 d.2.2.2.2.2.2.2.2.2.1 d.2.2.2.2.2.2.2.2.2.2.1) pk46q nm args h)
theorem ev46q (k : Nat) (d : AD as46q) : evF E46q A46q k 1000 0 Proofs.Try.f94 (absArgs as46q d).1 (absArgs as46q d).2 (outM rs46q up46q) = post_Post_fn1 k d.1 d.2.1 d.2.2.1 d.2.2.2.1 d.2.2.2.2.1 d.2.2.2.2.2.1 d.2.2.2.2.2.2.1 d.2.2.2.2.2.2.2.1 d.2.2.2.2.2.2.2.2.1 d.2.2.2.2.2.2.2.2.2.1 d.2.2.2.2.2.2.2.2.2.2.1 := by
  obtain ⟨_, _, _, _, _, _, _, _, _, _, _, _⟩ := d
  kernel_rfl
theorem Ro46q : EntryOK Proofs.Try.prog R46q := fun k _ _ _ _ _ hy =>
  entry_sound (unpack := up46q) (A := A46q) (k := k) (pre := 1000) (na := 0) (E := E46q) Eo46q El46q mixed_orders (f := 94) (fn := Proofs.Try.f94) (by kernel_rfl) (body_loops (loopsOK_none (by kernel_rfl))) (enters (fn := Proofs.Try.f94) (by kernel_rfl) (by kernel_rfl) (by kernel_rfl)) (fun _ => rfl) (ev46q k) hy
theorem Rl46q : EntryLocal R46q.2 := entry_local (S := fun k (d : AD as46q) => post_Post_fn1 k d.1 d.2.1 d.2.2.1 d.2.2.2.1 d.2.2.2.2.1 d.2.2.2.2.2.1 d.2.2.2.2.2.2.1 d.2.2.2.2.2.2.2.1 d.2.2.2.2.2.2.2.2.1 d.2.2.2.2.2.2.2.2.2.1 d.2.2.2.2.2.2.2.2.2.2.1)

/-! ### slices.IndexFunc[[]giro/api.Pay,giro/api.Pay] -/
noncomputable def E47q : Env := ⟨Proofs.Try.prog, fun _ => false, sumsOf [R46q]⟩
def I47_0q : Spec := ⟨[(0, .c (.dat false y7q)), (1, .c (.lit (.fn 94 [1001000]))), (7, .c (.int .i64)), (8, .c (.int .i64))], [.robox [.dat false y3q, .dat false (.sl (.int .i64)), .dat false (.int .i64), .dat false (.sl (.int .i64))]], []⟩
def X0_47_0q : Spec := ⟨[], [], []⟩
def X1_47_0q : Spec := ⟨[(4, .c (.int .i64))], [], []⟩
def O47_0q : List (Ex × Spec) := [(.exit 0, X0_47_0q), (.ret, X1_47_0q)]
abbrev Z47_0q : Type := Unit ⊕ Int
def c47_0q (f : List K1q → Int → Int → List K2q → List (List Int) → List Int → List (List Int) → Option Z47_0q) (d : I47_0q.den) : Option Z47_0q := f d.1.1.1 d.1.2.2.1.1 d.1.2.2.2.1.1 d.2.1.1 d.2.1.2.1 d.2.1.2.2.1 d.2.1.2.2.2.1
def T47_0q : OutD O47_0q → Z47_0q
 | .inl d => .inl ()
 | .inr d => .inr d.1.1.1
def e47_0q (base : Nat) (x : Z47_0q) (R : Type) (K : Ex → St → Option R) : Option R := match x with
 | .inl x => K (.exit 0) (stOf base X0_47_0q ((), ()))
 | .inr x => K .ret (stOf base X1_47_0q (((x, ()), ()), ()))
def L47_0q : LoopSum := ⟨I47_0q, O47_0q, Z47_0q, fun k d => c47_0q (slices_IndexFunc_Pay__post_Post_fn1_L0 k k) d, e47_0q⟩
def A47q : Notes := ⟨[], [(2, L47_0q)]⟩
theorem Eo47q : EnvOK E47q := ⟨eqOK_none, sumsOf_ok (List.forall_mem_cons.2 ⟨Ro46q, List.forall_mem_nil _⟩)⟩
theorem El47q : SumsLocal E47q.sums := sumsOf_local (List.forall_mem_cons.2 ⟨Rl46q, List.forall_mem_nil _⟩)
theorem st47_0q (k : Nat) (rec : List K1q → Int → Int → List K2q → List (List Int) → List Int → List (List Int) → Option Z47_0q) (d : I47_0q.den) : c47_0q (slices_IndexFunc_Pay__post_Post_fn1_L0b k rec) d = evC E47q A47q k 1000 0 19 (loopAt (bodyOf Proofs.Try.f109) 0) (stOf (1000 + loopBase) I47_0q d) (roundK 1000 I47_0q O47_0q T47_0q (c47_0q rec)) := by
  obtain ⟨⟨⟨_, _⟩, _, ⟨_, _⟩, ⟨_, _⟩, _⟩, ⟨⟨_, _, _, _, _⟩, _⟩⟩ := d
  kernel_rfl
theorem lk47_0q : LoopOK Proofs.Try.prog 1000 0 19 (loopAt (bodyOf Proofs.Try.f109) 0) L47_0q :=
  loop_sound (A := A47q) (inS := I47_0q) (outs := O47_0q) Eo47q El47q mixed_orders (loopsOK_none (by kernel_rfl)) T47_0q e47_0q (by intro o R K; rcases o with o | o <;> rfl) (fun k n d => c47_0q (slices_IndexFunc_Pay__post_Post_fn1_L0 k n) d) (fun _ _ => rfl) (fun k n d => st47_0q k (slices_IndexFunc_Pay__post_Post_fn1_L0 k n) d)
def as47q : List AS := [.c (.dat false y7q), .fn 94 [[.dat false y3q, .dat false (.sl (.int .i64)), .dat false (.int .i64), .dat false (.sl (.int .i64))]]]
def rs47q : RS := .c (.int .i64)
def pk47q : Int → RL rs47q.cells := fun x => (x, ())
def up47q : RL rs47q.cells → Int := fun d => d.1
def R47q : Nat × Entry := (109, fun k nm args h => entry as47q rs47q (fun d => slices_IndexFunc_Pay__post_Post_fn1 k d.1 d.2.1 d.2.2.1 d.2.2.2.1 d.2.2.2.2.1) pk47q nm args h)
theorem ev47q (k : Nat) (d : AD as47q) : evF E47q A47q k 1000 0 Proofs.Try.f109 (absArgs as47q d).1 (absArgs as47q d).2 (outM rs47q up47q) = slices_IndexFunc_Pay__post_Post_fn1 k d.1 d.2.1 d.2.2.1 d.2.2.2.1 d.2.2.2.2.1 := by
  obtain ⟨_, _, _, _, _, _⟩ := d
  kernel_rfl
theorem Ro47q : EntryOK Proofs.Try.prog R47q := fun k _ _ _ _ _ hy =>
  entry_sound (unpack := up47q) (A := A47q) (k := k) (pre := 1000) (na := 0) (E := E47q) Eo47q El47q mixed_orders (f := 109) (fn := Proofs.Try.f109) (by kernel_rfl) (body_loops (loopsOK_of (n := 1) (by kernel_rfl) fun i hi => match i, hi with | 0, _ => ⟨L47_0q, by kernel_rfl, lk47_0q⟩ | i + 1, hi => absurd hi (by omega))) (enters (fn := Proofs.Try.f109) (by kernel_rfl) (by kernel_rfl) (by kernel_rfl)) (fun _ => rfl) (ev47q k) hy
theorem Rl47q : EntryLocal R47q.2 := entry_local (S := fun k (d : AD as47q) => slices_IndexFunc_Pay__post_Post_fn1 k d.1 d.2.1 d.2.2.1 d.2.2.2.1 d.2.2.2.2.1)

/-! ### slices.ContainsFunc[[]giro/api.Pay,giro/api.Pay] -/
noncomputable def E48q : Env := ⟨Proofs.Try.prog, fun _ => false, sumsOf [R47q]⟩
def A48q : Notes := ⟨[], []⟩
theorem Eo48q : EnvOK E48q := ⟨eqOK_none, sumsOf_ok (List.forall_mem_cons.2 ⟨Ro47q, List.forall_mem_nil _⟩)⟩
theorem El48q : SumsLocal E48q.sums := sumsOf_local (List.forall_mem_cons.2 ⟨Rl47q, List.forall_mem_nil _⟩)
def as48q : List AS := [.c (.dat false y7q), .fn 94 [[.dat false y3q, .dat false (.sl (.int .i64)), .dat false (.int .i64), .dat false (.sl (.int .i64))]]]
def rs48q : RS := .c (.bool)
def pk48q : Bool → RL rs48q.cells := fun x => (x, ())
def up48q : RL rs48q.cells → Bool := fun d => d.1
def R48q : Nat × Entry := (88, fun k nm args h => entry as48q rs48q (fun d => slices_ContainsFunc_Pay__post_Post_fn1 k d.1 d.2.1 d.2.2.1 d.2.2.2.1 d.2.2.2.2.1) pk48q nm args h)
theorem ev48q (k : Nat) (d : AD as48q) : evF E48q A48q k 1000 0 Proofs.Try.f88 (absArgs as48q d).1 (absArgs as48q d).2 (outM rs48q up48q) = slices_ContainsFunc_Pay__post_Post_fn1 k d.1 d.2.1 d.2.2.1 d.2.2.2.1 d.2.2.2.2.1 := by
  obtain ⟨_, _, _, _, _, _⟩ := d
  kernel_rfl
theorem Ro48q : EntryOK Proofs.Try.prog R48q := fun k _ _ _ _ _ hy =>
  entry_sound (unpack := up48q) (A := A48q) (k := k) (pre := 1000) (na := 0) (E := E48q) Eo48q El48q mixed_orders (f := 88) (fn := Proofs.Try.f88) (by kernel_rfl) (body_loops (loopsOK_none (by kernel_rfl))) (enters (fn := Proofs.Try.f88) (by kernel_rfl) (by kernel_rfl) (by kernel_rfl)) (fun _ => rfl) (ev48q k) hy
theorem Rl48q : EntryLocal R48q.2 := entry_local (S := fun k (d : AD as48q) => slices_ContainsFunc_Pay__post_Post_fn1 k d.1 d.2.1 d.2.2.1 d.2.2.2.1 d.2.2.2.2.1)

/-! ### slices.Clone[[]giro/api.Acct,giro/api.Acct] -/
noncomputable def E49q : Env := ⟨Proofs.Try.prog, fun _ => false, sumsOf []⟩
def A49q : Notes := ⟨[], []⟩
theorem Eo49q : EnvOK E49q := ⟨eqOK_none, sumsOf_ok (List.forall_mem_nil _)⟩
theorem El49q : SumsLocal E49q.sums := sumsOf_local (List.forall_mem_nil _)
def as49q : List AS := [.c (.dat false y3q)]
def rs49q : RS := .c (.own y3q)
def pk49q : List K2q → RL rs49q.cells := fun x => (x, ())
def up49q : RL rs49q.cells → List K2q := fun d => d.1
def R49q : Nat × Entry := (114, fun k nm args h => entry as49q rs49q (fun d => slices_Clone_Acct k d.1) pk49q nm args h)
theorem nil49q (k : Nat) : evF E49q A49q k 1000 0 Proofs.Try.f114 [.c .nsl] (boxHp []) (outM rs49q up49q) = slices_Clone_Acct k [] := by kernel_rfl
theorem ev49q (k : Nat) (xs : List K2q) : evF E49q A49q k 1000 0 Proofs.Try.f114 [.c (.nfl false y3q xs)] (boxHp []) (outM rs49q up49q) = slices_Clone_Acct k xs := by kernel_rfl
theorem Ro49q : EntryOK Proofs.Try.prog R49q := fun k _ _ _ _ _ hy =>
  entry_nil (t := y3q) (S := fun xs => slices_Clone_Acct k xs) (unpack := up49q) (A := A49q) (k := k) (pre := 1000) (na := 0) (E := E49q) Eo49q El49q mixed_orders (f := 114) (fn := Proofs.Try.f114) (by kernel_rfl) (body_loops (loopsOK_none (by kernel_rfl))) (enters (fn := Proofs.Try.f114) (by kernel_rfl) (by kernel_rfl) (by kernel_rfl)) (fun _ => rfl) (fun x hx => (nil49q k).trans hx) (fun xs x hx => (ev49q k xs).trans hx) hy
theorem Rl49q : EntryLocal R49q.2 := entry_local (S := fun k (d : AD as49q) => slices_Clone_Acct k d.1)

/-! ### slices.Clone[[][]int64,[]int64] -/
noncomputable def E50q : Env := ⟨Proofs.Try.prog, fun _ => false, sumsOf []⟩
def A50q : Notes := ⟨[], []⟩
theorem Eo50q : EnvOK E50q := ⟨eqOK_none, sumsOf_ok (List.forall_mem_nil _)⟩
theorem El50q : SumsLocal E50q.sums := sumsOf_local (List.forall_mem_nil _)
def as50q : List AS := [.c (.dat true (.sl (.int .i64)))]
def rs50q : RS := .c (.jun)
def pk50q : Nat → RL rs50q.cells := fun x => (x, ())
def up50q : RL rs50q.cells → Nat := fun d => d.1
def R50q : Nat × Entry := (129, fun k nm args h => entry as50q rs50q (fun d => slices_Clone_Rowint64 k d.1) pk50q nm args h)
theorem nil50q (k : Nat) : evF E50q A50q k 1000 0 Proofs.Try.f129 [.c .nsl] (boxHp []) (outM rs50q up50q) = slices_Clone_Rowint64 k [] := by kernel_rfl
theorem ev50q (k : Nat) (xs : List (List Int)) : evF E50q A50q k 1000 0 Proofs.Try.f129 [.c (.nfl true (.sl (.int .i64)) xs)] (boxHp []) (outM rs50q up50q) = slices_Clone_Rowint64 k xs := by kernel_rfl
theorem Ro50q : EntryOK Proofs.Try.prog R50q := fun k _ _ _ _ _ hy =>
  entry_nil (t := (.sl (.int .i64))) (S := fun xs => slices_Clone_Rowint64 k xs) (unpack := up50q) (A := A50q) (k := k) (pre := 1000) (na := 0) (E := E50q) Eo50q El50q mixed_orders (f := 129) (fn := Proofs.Try.f129) (by kernel_rfl) (body_loops (loopsOK_none (by kernel_rfl))) (enters (fn := Proofs.Try.f129) (by kernel_rfl) (by kernel_rfl) (by kernel_rfl)) (fun _ => rfl) (fun x hx => (nil50q k).trans hx) (fun xs x hx => (ev50q k xs).trans hx) hy
theorem Rl50q : EntryLocal R50q.2 := entry_local (S := fun k (d : AD as50q) => slices_Clone_Rowint64 k d.1)

/-! ### slices.Clone[[]int64,int64] -/
noncomputable def E51q : Env := ⟨Proofs.Try.prog, fun _ => false, sumsOf []⟩
def A51q : Notes := ⟨[], []⟩
theorem Eo51q : EnvOK E51q := ⟨eqOK_none, sumsOf_ok (List.forall_mem_nil _)⟩
theorem El51q : SumsLocal E51q.sums := sumsOf_local (List.forall_mem_nil _)
def as51q : List AS := [.c (.dat false (.int .i64))]
def rs51q : RS := .c (.own (.int .i64))
def pk51q : List Int → RL rs51q.cells := fun x => (x, ())
def up51q : RL rs51q.cells → List Int := fun d => d.1
def R51q : Nat × Entry := (116, fun k nm args h => entry as51q rs51q (fun d => slices_Clone_int64 k d.1) pk51q nm args h)
theorem nil51q (k : Nat) : evF E51q A51q k 1000 0 Proofs.Try.f116 [.c .nsl] (boxHp []) (outM rs51q up51q) = slices_Clone_int64 k [] := by kernel_rfl
theorem ev51q (k : Nat) (xs : List Int) : evF E51q A51q k 1000 0 Proofs.Try.f116 [.c (.nfl false (.int .i64) xs)] (boxHp []) (outM rs51q up51q) = slices_Clone_int64 k xs := by kernel_rfl
theorem Ro51q : EntryOK Proofs.Try.prog R51q := fun k _ _ _ _ _ hy =>
  entry_nil (t := (.int .i64)) (S := fun xs => slices_Clone_int64 k xs) (unpack := up51q) (A := A51q) (k := k) (pre := 1000) (na := 0) (E := E51q) Eo51q El51q mixed_orders (f := 116) (fn := Proofs.Try.f116) (by kernel_rfl) (body_loops (loopsOK_none (by kernel_rfl))) (enters (fn := Proofs.Try.f116) (by kernel_rfl) (by kernel_rfl) (by kernel_rfl)) (fun _ => rfl) (fun x hx => (nil51q k).trans hx) (fun xs x hx => (ev51q k xs).trans hx) hy
theorem Rl51q : EntryLocal R51q.2 := entry_local (S := fun k (d : AD as51q) => slices_Clone_int64 k d.1)

/-! ### giro/lim.copied -/
noncomputable def E52q : Env := ⟨Proofs.Try.prog, fun _ => false, sumsOf [R50q, R51q]⟩
def I52_0q : Spec := ⟨[(3, .c (.lit (.osl 1001000 none))), (8, .c (.dat true (.sl (.int .i64)))), (9, .c (.int .i64)), (10, .c (.int .i64))], [.pmat], []⟩
def X0_52_0q : Spec := ⟨[(3, .c (.lit (.osl 1001000 none)))], [.pmat], []⟩
def O52_0q : List (Ex × Spec) := [(.exit 0, X0_52_0q)]
abbrev Z52_0q : Type := (List (List Int)) × Nat
def c52_0q (f : List (List Int) → Int → Int → List (List Int) → Nat → Option Z52_0q) (d : I52_0q.den) : Option Z52_0q := f d.1.2.1.1 d.1.2.2.1.1 d.1.2.2.2.1.1 d.2.1.1 d.2.1.2
def T52_0q : OutD O52_0q → Z52_0q := fun d => (d.2.1.1, d.2.1.2)
def e52_0q (base : Nat) (x : Z52_0q) (R : Type) (K : Ex → St → Option R) : Option R := K (.exit 0) (stOf base X0_52_0q (((), ()), ((x.1, x.2), ())))
def L52_0q : LoopSum := ⟨I52_0q, O52_0q, Z52_0q, fun k d => c52_0q (lim_copied_L0 k k) d, e52_0q⟩
def A52q : Notes := ⟨[], [(3, L52_0q)]⟩
theorem Eo52q : EnvOK E52q := ⟨eqOK_none, sumsOf_ok (List.forall_mem_cons.2 ⟨Ro50q, List.forall_mem_cons.2 ⟨Ro51q, List.forall_mem_nil _⟩⟩)⟩
theorem El52q : SumsLocal E52q.sums := sumsOf_local (List.forall_mem_cons.2 ⟨Rl50q, List.forall_mem_cons.2 ⟨Rl51q, List.forall_mem_nil _⟩⟩)
theorem st52_0q (k : Nat) (rec : List (List Int) → Int → Int → List (List Int) → Nat → Option Z52_0q) (d : I52_0q.den) : c52_0q (lim_copied_L0b k rec) d = evC E52q A52q k 1000 0 22 (loopAt (bodyOf Proofs.Try.f115) 0) (stOf (1000 + loopBase) I52_0q d) (roundK 1000 I52_0q O52_0q T52_0q (c52_0q rec)) := by
  obtain ⟨⟨_, ⟨_, _⟩, ⟨_, _⟩, ⟨_, _⟩, _⟩, ⟨_, _⟩⟩ := d
  kernel_rfl
theorem lk52_0q : LoopOK Proofs.Try.prog 1000 0 22 (loopAt (bodyOf Proofs.Try.f115) 0) L52_0q :=
  loop_sound (A := A52q) (inS := I52_0q) (outs := O52_0q) Eo52q El52q mixed_orders (loopsOK_none (by kernel_rfl)) T52_0q e52_0q (fun _ _ _ => rfl) (fun k n d => c52_0q (lim_copied_L0 k n) d) (fun _ _ => rfl) (fun k n d => st52_0q k (lim_copied_L0 k n) d)
def as52q : List AS := [.c (.dat true (.sl (.int .i64)))]
def rs52q : RS := .c (.mat)
def pk52q : List (List Int) → RL rs52q.cells := fun x => (x, ())
def up52q : RL rs52q.cells → List (List Int) := fun d => d.1
def R52q : Nat × Entry := (115, fun k nm args h => entry as52q rs52q (fun d => lim_copied k d.1) pk52q nm args h)
theorem ev52q (k : Nat) (d : AD as52q) : evF E52q A52q k 1000 0 Proofs.Try.f115 (absArgs as52q d).1 (absArgs as52q d).2 (outM rs52q up52q) = lim_copied k d.1 := by
  obtain ⟨_, _⟩ := d
  kernel_rfl
theorem Ro52q : EntryOK Proofs.Try.prog R52q := fun k _ _ _ _ _ hy =>
  entry_sound (unpack := up52q) (A := A52q) (k := k) (pre := 1000) (na := 0) (E := E52q) Eo52q El52q mixed_orders (f := 115) (fn := Proofs.Try.f115) (by kernel_rfl) (body_loops (loopsOK_of (n := 1) (by kernel_rfl) fun i hi => match i, hi with | 0, _ => ⟨L52_0q, by kernel_rfl, lk52_0q⟩ | i + 1, hi => absurd hi (by omega))) (enters (fn := Proofs.Try.f115) (by kernel_rfl) (by kernel_rfl) (by kernel_rfl)) (fun _ => rfl) (ev52q k) hy
theorem Rl52q : EntryLocal R52q.2 := entry_local (S := fun k (d : AD as52q) => lim_copied k d.1)

/-! ### giro/lim.Copy -/
noncomputable def E53q : Env := ⟨Proofs.Try.prog, fun _ => false, sumsOf [R49q, R52q, R51q]⟩
def A53q : Notes := ⟨[], []⟩
theorem Eo53q : EnvOK E53q := ⟨eqOK_none, sumsOf_ok (List.forall_mem_cons.2 ⟨Ro49q, List.forall_mem_cons.2 ⟨Ro52q, List.forall_mem_cons.2 ⟨Ro51q, List.forall_mem_nil _⟩⟩⟩)⟩
theorem El53q : SumsLocal E53q.sums := sumsOf_local (List.forall_mem_cons.2 ⟨Rl49q, List.forall_mem_cons.2 ⟨Rl52q, List.forall_mem_cons.2 ⟨Rl51q, List.forall_mem_nil _⟩⟩⟩)
def as53q : List AS := [.agg [.dat false y3q, .dat true (.sl (.int .i64)), .dat false (.int .i64), .dat true (.sl (.int .i64))]]
def rs53q : RS := .agg [.own y3q, .mat, .own (.int .i64), .mat]
def pk53q : (List K2q) × (List (List Int)) × (List Int) × (List (List Int)) → RL rs53q.cells := fun x => (x.1, x.2.1, x.2.2.1, x.2.2.2, ())
def up53q : RL rs53q.cells → (List K2q) × (List (List Int)) × (List Int) × (List (List Int)) := fun d => (d.1, d.2.1, d.2.2.1, d.2.2.2.1)
def R53q : Nat × Entry := (96, fun k nm args h => entry as53q rs53q (fun d => lim_Copy k d.1 d.2.1 d.2.2.1 d.2.2.2.1) pk53q nm args h)
theorem ev53q (k : Nat) (d : AD as53q) : evF E53q A53q k 1000 0 Proofs.Try.f96 (absArgs as53q d).1 (absArgs as53q d).2 (outM rs53q up53q) = lim_Copy k d.1 d.2.1 d.2.2.1 d.2.2.2.1 := by
  obtain ⟨_, _, _, _, _⟩ := d
  kernel_rfl
theorem Ro53q : EntryOK Proofs.Try.prog R53q := fun k _ _ _ _ _ hy =>
  entry_sound (unpack := up53q) (A := A53q) (k := k) (pre := 1000) (na := 0) (E := E53q) Eo53q El53q mixed_orders (f := 96) (fn := Proofs.Try.f96) (by kernel_rfl) (body_loops (loopsOK_none (by kernel_rfl))) (enters (fn := Proofs.Try.f96) (by kernel_rfl) (by kernel_rfl) (by kernel_rfl)) (fun _ => rfl) (ev53q k) hy
theorem Rl53q : EntryLocal R53q.2 := entry_local (S := fun k (d : AD as53q) => lim_Copy k d.1 d.2.1 d.2.2.1 d.2.2.2.1)

/-! ### giro/acct.Is -/
noncomputable def E54q : Env := ⟨Proofs.Try.prog, fun _ => false, sumsOf []⟩
def A54q : Notes := ⟨[], []⟩
theorem Eo54q : EnvOK E54q := ⟨eqOK_none, sumsOf_ok (List.forall_mem_nil _)⟩
theorem El54q : SumsLocal E54q.sums := sumsOf_local (List.forall_mem_nil _)
def as54q : List AS := [.agg [.int .i64, .int .i64, .int .i64]]
def rs54q : RS := .c (.bool)
def pk54q : Bool → RL rs54q.cells := fun x => (x, ())
def up54q : RL rs54q.cells → Bool := fun d => d.1
def R54q : Nat × Entry := (118, fun k nm args h => entry as54q rs54q (fun d => acct_Is k d.1 d.2.1 d.2.2.1) pk54q nm args h)
theorem ev54q (k : Nat) (d : AD as54q) : evF E54q A54q k 1000 0 Proofs.Try.f118 (absArgs as54q d).1 (absArgs as54q d).2 (outM rs54q up54q) = acct_Is k d.1 d.2.1 d.2.2.1 := by
  obtain ⟨_, _, _, _⟩ := d
  kernel_rfl
theorem Ro54q : EntryOK Proofs.Try.prog R54q := fun k _ _ _ _ _ hy =>
  entry_sound (unpack := up54q) (A := A54q) (k := k) (pre := 1000) (na := 0) (E := E54q) Eo54q El54q mixed_orders (f := 118) (fn := Proofs.Try.f118) (by kernel_rfl) (body_loops (loopsOK_none (by kernel_rfl))) (enters (fn := Proofs.Try.f118) (by kernel_rfl) (by kernel_rfl) (by kernel_rfl)) (fun _ => rfl) (ev54q k) hy
theorem Rl54q : EntryLocal R54q.2 := entry_local (S := fun k (d : AD as54q) => acct_Is k d.1 d.2.1 d.2.2.1)

/-! ### giro/lim.Is$1 -/
noncomputable def E55q : Env := ⟨Proofs.Try.prog, fun _ => false, sumsOf [R54q]⟩
def A55q : Notes := ⟨[], []⟩
theorem Eo55q : EnvOK E55q := ⟨eqOK_none, sumsOf_ok (List.forall_mem_cons.2 ⟨Ro54q, List.forall_mem_nil _⟩)⟩
theorem El55q : SumsLocal E55q.sums := sumsOf_local (List.forall_mem_cons.2 ⟨Rl54q, List.forall_mem_nil _⟩)
def as55q : List AS := [.agg [.int .i64, .int .i64, .int .i64]]
def rs55q : RS := .c (.bool)
def pk55q : Bool → RL rs55q.cells := fun x => (x, ())
def up55q : RL rs55q.cells → Bool := fun d => d.1
def R55q : Nat × Entry := (117, fun k nm args h => entry as55q rs55q (fun d => lim_Is_fn1 k d.1 d.2.1 d.2.2.1) pk55q nm args h)
theorem ev55q (k : Nat) (d : AD as55q) : evF E55q A55q k 1000 0 Proofs.Try.f117 (absArgs as55q d).1 (absArgs as55q d).2 (outM rs55q up55q) = lim_Is_fn1 k d.1 d.2.1 d.2.2.1 := by
  obtain ⟨_, _, _, _⟩ := d
  kernel_rfl
theorem Ro55q : EntryOK Proofs.Try.prog R55q := fun k _ _ _ _ _ hy =>
  entry_sound (unpack := up55q) (A := A55q) (k := k) (pre := 1000) (na := 0) (E := E55q) Eo55q El55q mixed_orders (f := 117) (fn := Proofs.Try.f117) (by kernel_rfl) (body_loops (loopsOK_none (by kernel_rfl))) (enters (fn := Proofs.Try.f117) (by kernel_rfl) (by kernel_rfl) (by kernel_rfl)) (fun _ => rfl) (ev55q k) hy
theorem Rl55q : EntryLocal R55q.2 := entry_local (S := fun k (d : AD as55q) => lim_Is_fn1 k d.1 d.2.1 d.2.2.1)

/-! ### slices.IndexFunc[[]giro/api.Acct,giro/api.Acct] -/
noncomputable def E56q : Env := ⟨Proofs.Try.prog, fun _ => false, sumsOf [R55q]⟩
def I56_0q : Spec := ⟨[(0, .c (.dat false y3q)), (1, .c (.lit (.fn 117 []))), (7, .c (.int .i64)), (8, .c (.int .i64))], [], []⟩
def X0_56_0q : Spec := ⟨[], [], []⟩
def X1_56_0q : Spec := ⟨[(4, .c (.int .i64))], [], []⟩
def O56_0q : List (Ex × Spec) := [(.exit 0, X0_56_0q), (.ret, X1_56_0q)]
abbrev Z56_0q : Type := Unit ⊕ Int
def c56_0q (f : List K2q → Int → Int → Option Z56_0q) (d : I56_0q.den) : Option Z56_0q := f d.1.1.1 d.1.2.2.1.1 d.1.2.2.2.1.1
def T56_0q : OutD O56_0q → Z56_0q
 | .inl d => .inl ()
 | .inr d => .inr d.1.1.1
def e56_0q (base : Nat) (x : Z56_0q) (R : Type) (K : Ex → St → Option R) : Option R := match x with
 | .inl x => K (.exit 0) (stOf base X0_56_0q ((), ()))
 | .inr x => K .ret (stOf base X1_56_0q (((x, ()), ()), ()))
def L56_0q : LoopSum := ⟨I56_0q, O56_0q, Z56_0q, fun k d => c56_0q (slices_IndexFunc_Acct__lim_Is_fn1_L0 k k) d, e56_0q⟩
def A56q : Notes := ⟨[], [(2, L56_0q)]⟩
theorem Eo56q : EnvOK E56q := ⟨eqOK_none, sumsOf_ok (List.forall_mem_cons.2 ⟨Ro55q, List.forall_mem_nil _⟩)⟩
theorem El56q : SumsLocal E56q.sums := sumsOf_local (List.forall_mem_cons.2 ⟨Rl55q, List.forall_mem_nil _⟩)
theorem st56_0q (k : Nat) (rec : List K2q → Int → Int → Option Z56_0q) (d : I56_0q.den) : c56_0q (slices_IndexFunc_Acct__lim_Is_fn1_L0b k rec) d = evC E56q A56q k 1000 0 19 (loopAt (bodyOf Proofs.Try.f130) 0) (stOf (1000 + loopBase) I56_0q d) (roundK 1000 I56_0q O56_0q T56_0q (c56_0q rec)) := by
  obtain ⟨⟨⟨_, _⟩, _, ⟨_, _⟩, ⟨_, _⟩, _⟩, _⟩ := d
  kernel_rfl
theorem lk56_0q : LoopOK Proofs.Try.prog 1000 0 19 (loopAt (bodyOf Proofs.Try.f130) 0) L56_0q :=
  loop_sound (A := A56q) (inS := I56_0q) (outs := O56_0q) Eo56q El56q mixed_orders (loopsOK_none (by kernel_rfl)) T56_0q e56_0q (by intro o R K; rcases o with o | o <;> rfl) (fun k n d => c56_0q (slices_IndexFunc_Acct__lim_Is_fn1_L0 k n) d) (fun _ _ => rfl) (fun k n d => st56_0q k (slices_IndexFunc_Acct__lim_Is_fn1_L0 k n) d)
def as56q : List AS := [.c (.dat false y3q), .c (.fn 117)]
def rs56q : RS := .c (.int .i64)
def pk56q : Int → RL rs56q.cells := fun x => (x, ())
def up56q : RL rs56q.cells → Int := fun d => d.1
def R56q : Nat × Entry := (130, fun k nm args h => entry as56q rs56q (fun d => slices_IndexFunc_Acct__lim_Is_fn1 k d.1) pk56q nm args h)
theorem ev56q (k : Nat) (d : AD as56q) : evF E56q A56q k 1000 0 Proofs.Try.f130 (absArgs as56q d).1 (absArgs as56q d).2 (outM rs56q up56q) = slices_IndexFunc_Acct__lim_Is_fn1 k d.1 := by
  obtain ⟨_, _, _⟩ := d
  kernel_rfl
theorem Ro56q : EntryOK Proofs.Try.prog R56q := fun k _ _ _ _ _ hy =>
  entry_sound (unpack := up56q) (A := A56q) (k := k) (pre := 1000) (na := 0) (E := E56q) Eo56q El56q mixed_orders (f := 130) (fn := Proofs.Try.f130) (by kernel_rfl) (body_loops (loopsOK_of (n := 1) (by kernel_rfl) fun i hi => match i, hi with | 0, _ => ⟨L56_0q, by kernel_rfl, lk56_0q⟩ | i + 1, hi => absurd hi (by omega))) (enters (fn := Proofs.Try.f130) (by kernel_rfl) (by kernel_rfl) (by kernel_rfl)) (fun _ => rfl) (ev56q k) hy
theorem Rl56q : EntryLocal R56q.2 := entry_local (S := fun k (d : AD as56q) => slices_IndexFunc_Acct__lim_Is_fn1 k d.1)

/-! ### slices.ContainsFunc[[]giro/api.Acct,giro/api.Acct] -/
noncomputable def E57q : Env := ⟨Proofs.Try.prog, fun _ => false, sumsOf [R56q]⟩
def A57q : Notes := ⟨[], []⟩
theorem Eo57q : EnvOK E57q := ⟨eqOK_none, sumsOf_ok (List.forall_mem_cons.2 ⟨Ro56q, List.forall_mem_nil _⟩)⟩
theorem El57q : SumsLocal E57q.sums := sumsOf_local (List.forall_mem_cons.2 ⟨Rl56q, List.forall_mem_nil _⟩)
def as57q : List AS := [.c (.dat false y3q), .c (.fn 117)]
def rs57q : RS := .c (.bool)
def pk57q : Bool → RL rs57q.cells := fun x => (x, ())
def up57q : RL rs57q.cells → Bool := fun d => d.1
def R57q : Nat × Entry := (119, fun k nm args h => entry as57q rs57q (fun d => slices_ContainsFunc_Acct__lim_Is_fn1 k d.1) pk57q nm args h)
theorem ev57q (k : Nat) (d : AD as57q) : evF E57q A57q k 1000 0 Proofs.Try.f119 (absArgs as57q d).1 (absArgs as57q d).2 (outM rs57q up57q) = slices_ContainsFunc_Acct__lim_Is_fn1 k d.1 := by
  obtain ⟨_, _, _⟩ := d
  kernel_rfl
theorem Ro57q : EntryOK Proofs.Try.prog R57q := fun k _ _ _ _ _ hy =>
  entry_sound (unpack := up57q) (A := A57q) (k := k) (pre := 1000) (na := 0) (E := E57q) Eo57q El57q mixed_orders (f := 119) (fn := Proofs.Try.f119) (by kernel_rfl) (body_loops (loopsOK_none (by kernel_rfl))) (enters (fn := Proofs.Try.f119) (by kernel_rfl) (by kernel_rfl) (by kernel_rfl)) (fun _ => rfl) (ev57q k) hy
theorem Rl57q : EntryLocal R57q.2 := entry_local (S := fun k (d : AD as57q) => slices_ContainsFunc_Acct__lim_Is_fn1 k d.1)

/-! ### giro/lim.isLimit -/
noncomputable def E58q : Env := ⟨Proofs.Try.prog, fun _ => false, sumsOf []⟩
def A58q : Notes := ⟨[], []⟩
theorem Eo58q : EnvOK E58q := ⟨eqOK_none, sumsOf_ok (List.forall_mem_nil _)⟩
theorem El58q : SumsLocal E58q.sums := sumsOf_local (List.forall_mem_nil _)
def as58q : List AS := [.c (.int .i64)]
def rs58q : RS := .c (.bool)
def pk58q : Bool → RL rs58q.cells := fun x => (x, ())
def up58q : RL rs58q.cells → Bool := fun d => d.1
def R58q : Nat × Entry := (121, fun k nm args h => entry as58q rs58q (fun d => lim_isLimit k d.1) pk58q nm args h)
theorem ev58q (k : Nat) (d : AD as58q) : evF E58q A58q k 1000 0 Proofs.Try.f121 (absArgs as58q d).1 (absArgs as58q d).2 (outM rs58q up58q) = lim_isLimit k d.1 := by
  obtain ⟨_, _⟩ := d
  kernel_rfl
theorem Ro58q : EntryOK Proofs.Try.prog R58q := fun k _ _ _ _ _ hy =>
  entry_sound (unpack := up58q) (A := A58q) (k := k) (pre := 1000) (na := 0) (E := E58q) Eo58q El58q mixed_orders (f := 121) (fn := Proofs.Try.f121) (by kernel_rfl) (body_loops (loopsOK_none (by kernel_rfl))) (enters (fn := Proofs.Try.f121) (by kernel_rfl) (by kernel_rfl) (by kernel_rfl)) (fun _ => rfl) (ev58q k) hy
theorem Rl58q : EntryLocal R58q.2 := entry_local (S := fun k (d : AD as58q) => lim_isLimit k d.1)

/-! ### giro/lim.isRow$1 -/
noncomputable def E59q : Env := ⟨Proofs.Try.prog, fun _ => false, sumsOf [R58q]⟩
def A59q : Notes := ⟨[], []⟩
theorem Eo59q : EnvOK E59q := ⟨eqOK_none, sumsOf_ok (List.forall_mem_cons.2 ⟨Ro58q, List.forall_mem_nil _⟩)⟩
theorem El59q : SumsLocal E59q.sums := sumsOf_local (List.forall_mem_cons.2 ⟨Rl58q, List.forall_mem_nil _⟩)
def as59q : List AS := [.c (.int .i64), .ptr [.fn 121]]
def rs59q : RS := .c (.bool)
def pk59q : Bool → RL rs59q.cells := fun x => (x, ())
def up59q : RL rs59q.cells → Bool := fun d => d.1
def R59q : Nat × Entry := (132, fun k nm args h => entry as59q rs59q (fun d => lim_isRow_fn1__lim_isLimit k d.1) pk59q nm args h)
theorem ev59q (k : Nat) (d : AD as59q) : evF E59q A59q k 1000 0 Proofs.Try.f132 (absArgs as59q d).1 (absArgs as59q d).2 (outM rs59q up59q) = lim_isRow_fn1__lim_isLimit k d.1 := by
  obtain ⟨_, _, _⟩ := d
  kernel_rfl
theorem Ro59q : EntryOK Proofs.Try.prog R59q := fun k _ _ _ _ _ hy =>
  entry_sound (unpack := up59q) (A := A59q) (k := k) (pre := 1000) (na := 0) (E := E59q) Eo59q El59q mixed_orders (f := 132) (fn := Proofs.Try.f132) (by kernel_rfl) (body_loops (loopsOK_none (by kernel_rfl))) (enters (fn := Proofs.Try.f132) (by kernel_rfl) (by kernel_rfl) (by kernel_rfl)) (fun _ => rfl) (ev59q k) hy
theorem Rl59q : EntryLocal R59q.2 := entry_local (S := fun k (d : AD as59q) => lim_isRow_fn1__lim_isLimit k d.1)

/-! ### slices.IndexFunc[[]int64,int64] -/
noncomputable def E60q : Env := ⟨Proofs.Try.prog, fun _ => false, sumsOf [R59q]⟩
def I60_0q : Spec := ⟨[(0, .c (.dat false (.int .i64))), (1, .c (.lit (.fn 132 [1001000]))), (7, .c (.int .i64)), (8, .c (.int .i64))], [.robox [.lit (.fn 121 [])]], []⟩
def X0_60_0q : Spec := ⟨[], [], []⟩
def X1_60_0q : Spec := ⟨[(4, .c (.int .i64))], [], []⟩
def O60_0q : List (Ex × Spec) := [(.exit 0, X0_60_0q), (.ret, X1_60_0q)]
abbrev Z60_0q : Type := Unit ⊕ Int
def c60_0q (f : List Int → Int → Int → Option Z60_0q) (d : I60_0q.den) : Option Z60_0q := f d.1.1.1 d.1.2.2.1.1 d.1.2.2.2.1.1
def T60_0q : OutD O60_0q → Z60_0q
 | .inl d => .inl ()
 | .inr d => .inr d.1.1.1
def e60_0q (base : Nat) (x : Z60_0q) (R : Type) (K : Ex → St → Option R) : Option R := match x with
 | .inl x => K (.exit 0) (stOf base X0_60_0q ((), ()))
 | .inr x => K .ret (stOf base X1_60_0q (((x, ()), ()), ()))
def L60_0q : LoopSum := ⟨I60_0q, O60_0q, Z60_0q, fun k d => c60_0q (slices_IndexFunc_int64__lim_isRow_fn1__lim_isLimit_L0 k k) d, e60_0q⟩
def A60q : Notes := ⟨[], [(2, L60_0q)]⟩
theorem Eo60q : EnvOK E60q := ⟨eqOK_none, sumsOf_ok (List.forall_mem_cons.2 ⟨Ro59q, List.forall_mem_nil _⟩)⟩
theorem El60q : SumsLocal E60q.sums := sumsOf_local (List.forall_mem_cons.2 ⟨Rl59q, List.forall_mem_nil _⟩)
theorem st60_0q (k : Nat) (rec : List Int → Int → Int → Option Z60_0q) (d : I60_0q.den) : c60_0q (slices_IndexFunc_int64__lim_isRow_fn1__lim_isLimit_L0b k rec) d = evC E60q A60q k 1000 0 19 (loopAt (bodyOf Proofs.Try.f135) 0) (stOf (1000 + loopBase) I60_0q d) (roundK 1000 I60_0q O60_0q T60_0q (c60_0q rec)) := by
  obtain ⟨⟨⟨_, _⟩, _, ⟨_, _⟩, ⟨_, _⟩, _⟩, ⟨_, _⟩⟩ := d
  kernel_rfl
theorem lk60_0q : LoopOK Proofs.Try.prog 1000 0 19 (loopAt (bodyOf Proofs.Try.f135) 0) L60_0q :=
  loop_sound (A := A60q) (inS := I60_0q) (outs := O60_0q) Eo60q El60q mixed_orders (loopsOK_none (by kernel_rfl)) T60_0q e60_0q (by intro o R K; rcases o with o | o <;> rfl) (fun k n d => c60_0q (slices_IndexFunc_int64__lim_isRow_fn1__lim_isLimit_L0 k n) d) (fun _ _ => rfl) (fun k n d => st60_0q k (slices_IndexFunc_int64__lim_isRow_fn1__lim_isLimit_L0 k n) d)
def as60q : List AS := [.c (.dat false (.int .i64)), .fn 132 [[.fn 121]]]
def rs60q : RS := .c (.int .i64)
def pk60q : Int → RL rs60q.cells := fun x => (x, ())
def up60q : RL rs60q.cells → Int := fun d => d.1
def R60q : Nat × Entry := (135, fun k nm args h => entry as60q rs60q (fun d => slices_IndexFunc_int64__lim_isRow_fn1__lim_isLimit k d.1) pk60q nm args h)
theorem ev60q (k : Nat) (d : AD as60q) : evF E60q A60q k 1000 0 Proofs.Try.f135 (absArgs as60q d).1 (absArgs as60q d).2 (outM rs60q up60q) = slices_IndexFunc_int64__lim_isRow_fn1__lim_isLimit k d.1 := by
  obtain ⟨_, _, _⟩ := d
  kernel_rfl
theorem Ro60q : EntryOK Proofs.Try.prog R60q := fun k _ _ _ _ _ hy =>
  entry_sound (unpack := up60q) (A := A60q) (k := k) (pre := 1000) (na := 0) (E := E60q) Eo60q El60q mixed_orders (f := 135) (fn := Proofs.Try.f135) (by kernel_rfl) (body_loops (loopsOK_of (n := 1) (by kernel_rfl) fun i hi => match i, hi with | 0, _ => ⟨L60_0q, by kernel_rfl, lk60_0q⟩ | i + 1, hi => absurd hi (by omega))) (enters (fn := Proofs.Try.f135) (by kernel_rfl) (by kernel_rfl) (by kernel_rfl)) (fun _ => rfl) (ev60q k) hy
theorem Rl60q : EntryLocal R60q.2 := entry_local (S := fun k (d : AD as60q) => slices_IndexFunc_int64__lim_isRow_fn1__lim_isLimit k d.1)

/-! ### slices.ContainsFunc[[]int64,int64] -/
noncomputable def E61q : Env := ⟨Proofs.Try.prog, fun _ => false, sumsOf [R60q]⟩
def A61q : Notes := ⟨[], []⟩
theorem Eo61q : EnvOK E61q := ⟨eqOK_none, sumsOf_ok (List.forall_mem_cons.2 ⟨Ro60q, List.forall_mem_nil _⟩)⟩
theorem El61q : SumsLocal E61q.sums := sumsOf_local (List.forall_mem_cons.2 ⟨Rl60q, List.forall_mem_nil _⟩)
def as61q : List AS := [.c (.dat false (.int .i64)), .fn 132 [[.fn 121]]]
def rs61q : RS := .c (.bool)
def pk61q : Bool → RL rs61q.cells := fun x => (x, ())
def up61q : RL rs61q.cells → Bool := fun d => d.1
def R61q : Nat × Entry := (131, fun k nm args h => entry as61q rs61q (fun d => slices_ContainsFunc_int64__lim_isRow_fn1__lim_isLimit k d.1) pk61q nm args h)
theorem ev61q (k : Nat) (d : AD as61q) : evF E61q A61q k 1000 0 Proofs.Try.f131 (absArgs as61q d).1 (absArgs as61q d).2 (outM rs61q up61q) = slices_ContainsFunc_int64__lim_isRow_fn1__lim_isLimit k d.1 := by
  obtain ⟨_, _, _⟩ := d
  kernel_rfl
theorem Ro61q : EntryOK Proofs.Try.prog R61q := fun k _ _ _ _ _ hy =>
  entry_sound (unpack := up61q) (A := A61q) (k := k) (pre := 1000) (na := 0) (E := E61q) Eo61q El61q mixed_orders (f := 131) (fn := Proofs.Try.f131) (by kernel_rfl) (body_loops (loopsOK_none (by kernel_rfl))) (enters (fn := Proofs.Try.f131) (by kernel_rfl) (by kernel_rfl) (by kernel_rfl)) (fun _ => rfl) (ev61q k) hy
theorem Rl61q : EntryLocal R61q.2 := entry_local (S := fun k (d : AD as61q) => slices_ContainsFunc_int64__lim_isRow_fn1__lim_isLimit k d.1)

/-! ### giro/lim.isRow -/
noncomputable def E62q : Env := ⟨Proofs.Try.prog, fun _ => false, sumsOf [R61q]⟩
def A62q : Notes := ⟨[], []⟩
theorem Eo62q : EnvOK E62q := ⟨eqOK_none, sumsOf_ok (List.forall_mem_cons.2 ⟨Ro61q, List.forall_mem_nil _⟩)⟩
theorem El62q : SumsLocal E62q.sums := sumsOf_local (List.forall_mem_cons.2 ⟨Rl61q, List.forall_mem_nil _⟩)
def as62q : List AS := [.c (.dat false (.int .i64)), .c (.int .i64), .c (.fn 121)]
def rs62q : RS := .c (.bool)
def pk62q : Bool → RL rs62q.cells := fun x => (x, ())
def up62q : RL rs62q.cells → Bool := fun d => d.1
def R62q : Nat × Entry := (122, fun k nm args h => entry as62q rs62q (fun d => lim_isRow__lim_isLimit k d.1 d.2.1) pk62q nm args h)
theorem ev62q (k : Nat) (d : AD as62q) : evF E62q A62q k 1000 0 Proofs.Try.f122 (absArgs as62q d).1 (absArgs as62q d).2 (outM rs62q up62q) = lim_isRow__lim_isLimit k d.1 d.2.1 := by
  obtain ⟨_, _, _, _⟩ := d
  kernel_rfl
theorem Ro62q : EntryOK Proofs.Try.prog R62q := fun k _ _ _ _ _ hy =>
  entry_sound (unpack := up62q) (A := A62q) (k := k) (pre := 1000) (na := 0) (E := E62q) Eo62q El62q mixed_orders (f := 122) (fn := Proofs.Try.f122) (by kernel_rfl) (body_loops (loopsOK_none (by kernel_rfl))) (enters (fn := Proofs.Try.f122) (by kernel_rfl) (by kernel_rfl) (by kernel_rfl)) (fun _ => rfl) (ev62q k) hy
theorem Rl62q : EntryLocal R62q.2 := entry_local (S := fun k (d : AD as62q) => lim_isRow__lim_isLimit k d.1 d.2.1)

/-! ### giro/lim.isSquare -/
noncomputable def E63q : Env := ⟨Proofs.Try.prog, fun _ => false, sumsOf [R62q]⟩
def I63_0q : Spec := ⟨[(1, .c (.int .i64)), (2, .c (.lit (.fn 121 []))), (13, .c (.dat false (.sl (.int .i64)))), (14, .c (.int .i64)), (15, .c (.int .i64))], [], []⟩
def X0_63_0q : Spec := ⟨[], [], []⟩
def X1_63_0q : Spec := ⟨[(6, .c (.bool))], [], []⟩
def O63_0q : List (Ex × Spec) := [(.exit 0, X0_63_0q), (.ret, X1_63_0q)]
abbrev Z63_0q : Type := Unit ⊕ Bool
def c63_0q (f : Int → List (List Int) → Int → Int → Option Z63_0q) (d : I63_0q.den) : Option Z63_0q := f d.1.1.1 d.1.2.2.1.1 d.1.2.2.2.1.1 d.1.2.2.2.2.1.1
def T63_0q : OutD O63_0q → Z63_0q
 | .inl d => .inl ()
 | .inr d => .inr d.1.1.1
def e63_0q (base : Nat) (x : Z63_0q) (R : Type) (K : Ex → St → Option R) : Option R := match x with
 | .inl x => K (.exit 0) (stOf base X0_63_0q ((), ()))
 | .inr x => K .ret (stOf base X1_63_0q (((x, ()), ()), ()))
def L63_0q : LoopSum := ⟨I63_0q, O63_0q, Z63_0q, fun k d => c63_0q (lim_isSquare__lim_isLimit_L0 k k) d, e63_0q⟩
def A63q : Notes := ⟨[], [(4, L63_0q)]⟩
theorem Eo63q : EnvOK E63q := ⟨eqOK_none, sumsOf_ok (List.forall_mem_cons.2 ⟨Ro62q, List.forall_mem_nil _⟩)⟩
theorem El63q : SumsLocal E63q.sums := sumsOf_local (List.forall_mem_cons.2 ⟨Rl62q, List.forall_mem_nil _⟩)
theorem st63_0q (k : Nat) (rec : Int → List (List Int) → Int → Int → Option Z63_0q) (d : I63_0q.den) : c63_0q (lim_isSquare__lim_isLimit_L0b k rec) d = evC E63q A63q k 1000 0 25 (loopAt (bodyOf Proofs.Try.f120) 0) (stOf (1000 + loopBase) I63_0q d) (roundK 1000 I63_0q O63_0q T63_0q (c63_0q rec)) := by
  obtain ⟨⟨⟨_, _⟩, _, ⟨_, _⟩, ⟨_, _⟩, ⟨_, _⟩, _⟩, _⟩ := d
  kernel_rfl
theorem lk63_0q : LoopOK Proofs.Try.prog 1000 0 25 (loopAt (bodyOf Proofs.Try.f120) 0) L63_0q :=
  loop_sound (A := A63q) (inS := I63_0q) (outs := O63_0q) Eo63q El63q mixed_orders (loopsOK_none (by kernel_rfl)) T63_0q e63_0q (by intro o R K; rcases o with o | o <;> rfl) (fun k n d => c63_0q (lim_isSquare__lim_isLimit_L0 k n) d) (fun _ _ => rfl) (fun k n d => st63_0q k (lim_isSquare__lim_isLimit_L0 k n) d)
def as63q : List AS := [.c (.dat false (.sl (.int .i64))), .c (.int .i64), .c (.fn 121)]
def rs63q : RS := .c (.bool)
def pk63q : Bool → RL rs63q.cells := fun x => (x, ())
def up63q : RL rs63q.cells → Bool := fun d => d.1
def R63q : Nat × Entry := (120, fun k nm args h => entry as63q rs63q (fun d => lim_isSquare__lim_isLimit k d.1 d.2.1) pk63q nm args h)
theorem ev63q (k : Nat) (d : AD as63q) : evF E63q A63q k 1000 0 Proofs.Try.f120 (absArgs as63q d).1 (absArgs as63q d).2 (outM rs63q up63q) = lim_isSquare__lim_isLimit k d.1 d.2.1 := by
  obtain ⟨_, _, _, _⟩ := d
  kernel_rfl
theorem Ro63q : EntryOK Proofs.Try.prog R63q := fun k _ _ _ _ _ hy =>
  entry_sound (unpack := up63q) (A := A63q) (k := k) (pre := 1000) (na := 0) (E := E63q) Eo63q El63q mixed_orders (f := 120) (fn := Proofs.Try.f120) (by kernel_rfl) (body_loops (loopsOK_of (n := 1) (by kernel_rfl) fun i hi => match i, hi with | 0, _ => ⟨L63_0q, by kernel_rfl, lk63_0q⟩ | i + 1, hi => absurd hi (by omega))) (enters (fn := Proofs.Try.f120) (by kernel_rfl) (by kernel_rfl) (by kernel_rfl)) (fun _ => rfl) (ev63q k) hy
theorem Rl63q : EntryLocal R63q.2 := entry_local (S := fun k (d : AD as63q) => lim_isSquare__lim_isLimit k d.1 d.2.1)

/-! ### giro/lim.isNet -/
noncomputable def E64q : Env := ⟨Proofs.Try.prog, fun _ => false, sumsOf []⟩
def A64q : Notes := ⟨[], []⟩
theorem Eo64q : EnvOK E64q := ⟨eqOK_none, sumsOf_ok (List.forall_mem_nil _)⟩
theorem El64q : SumsLocal E64q.sums := sumsOf_local (List.forall_mem_nil _)
def as64q : List AS := [.c (.int .i64)]
def rs64q : RS := .c (.bool)
def pk64q : Bool → RL rs64q.cells := fun x => (x, ())
def up64q : RL rs64q.cells → Bool := fun d => d.1
def R64q : Nat × Entry := (123, fun k nm args h => entry as64q rs64q (fun d => lim_isNet k d.1) pk64q nm args h)
theorem ev64q (k : Nat) (d : AD as64q) : evF E64q A64q k 1000 0 Proofs.Try.f123 (absArgs as64q d).1 (absArgs as64q d).2 (outM rs64q up64q) = lim_isNet k d.1 := by
  obtain ⟨_, _⟩ := d
  kernel_rfl
theorem Ro64q : EntryOK Proofs.Try.prog R64q := fun k _ _ _ _ _ hy =>
  entry_sound (unpack := up64q) (A := A64q) (k := k) (pre := 1000) (na := 0) (E := E64q) Eo64q El64q mixed_orders (f := 123) (fn := Proofs.Try.f123) (by kernel_rfl) (body_loops (loopsOK_none (by kernel_rfl))) (enters (fn := Proofs.Try.f123) (by kernel_rfl) (by kernel_rfl) (by kernel_rfl)) (fun _ => rfl) (ev64q k) hy
theorem Rl64q : EntryLocal R64q.2 := entry_local (S := fun k (d : AD as64q) => lim_isNet k d.1)

/-! ### giro/lim.isRow$1 -/
noncomputable def E65q : Env := ⟨Proofs.Try.prog, fun _ => false, sumsOf [R64q]⟩
def A65q : Notes := ⟨[], []⟩
theorem Eo65q : EnvOK E65q := ⟨eqOK_none, sumsOf_ok (List.forall_mem_cons.2 ⟨Ro64q, List.forall_mem_nil _⟩)⟩
theorem El65q : SumsLocal E65q.sums := sumsOf_local (List.forall_mem_cons.2 ⟨Rl64q, List.forall_mem_nil _⟩)
def as65q : List AS := [.c (.int .i64), .ptr [.fn 123]]
def rs65q : RS := .c (.bool)
def pk65q : Bool → RL rs65q.cells := fun x => (x, ())
def up65q : RL rs65q.cells → Bool := fun d => d.1
def R65q : Nat × Entry := (132, fun k nm args h => entry as65q rs65q (fun d => lim_isRow_fn1__lim_isNet k d.1) pk65q nm args h)
theorem ev65q (k : Nat) (d : AD as65q) : evF E65q A65q k 1000 0 Proofs.Try.f132 (absArgs as65q d).1 (absArgs as65q d).2 (outM rs65q up65q) = lim_isRow_fn1__lim_isNet k d.1 := by
  obtain ⟨_, _, _⟩ := d
  kernel_rfl
theorem Ro65q : EntryOK Proofs.Try.prog R65q := fun k _ _ _ _ _ hy =>
  entry_sound (unpack := up65q) (A := A65q) (k := k) (pre := 1000) (na := 0) (E := E65q) Eo65q El65q mixed_orders (f := 132) (fn := Proofs.Try.f132) (by kernel_rfl) (body_loops (loopsOK_none (by kernel_rfl))) (enters (fn := Proofs.Try.f132) (by kernel_rfl) (by kernel_rfl) (by kernel_rfl)) (fun _ => rfl) (ev65q k) hy
theorem Rl65q : EntryLocal R65q.2 := entry_local (S := fun k (d : AD as65q) => lim_isRow_fn1__lim_isNet k d.1)

/-! ### slices.IndexFunc[[]int64,int64] -/
noncomputable def E66q : Env := ⟨Proofs.Try.prog, fun _ => false, sumsOf [R65q]⟩
def I66_0q : Spec := ⟨[(0, .c (.dat false (.int .i64))), (1, .c (.lit (.fn 132 [1001000]))), (7, .c (.int .i64)), (8, .c (.int .i64))], [.robox [.lit (.fn 123 [])]], []⟩
def X0_66_0q : Spec := ⟨[], [], []⟩
def X1_66_0q : Spec := ⟨[(4, .c (.int .i64))], [], []⟩
def O66_0q : List (Ex × Spec) := [(.exit 0, X0_66_0q), (.ret, X1_66_0q)]
abbrev Z66_0q : Type := Unit ⊕ Int
def c66_0q (f : List Int → Int → Int → Option Z66_0q) (d : I66_0q.den) : Option Z66_0q := f d.1.1.1 d.1.2.2.1.1 d.1.2.2.2.1.1
def T66_0q : OutD O66_0q → Z66_0q
 | .inl d => .inl ()
 | .inr d => .inr d.1.1.1
def e66_0q (base : Nat) (x : Z66_0q) (R : Type) (K : Ex → St → Option R) : Option R := match x with
 | .inl x => K (.exit 0) (stOf base X0_66_0q ((), ()))
 | .inr x => K .ret (stOf base X1_66_0q (((x, ()), ()), ()))
def L66_0q : LoopSum := ⟨I66_0q, O66_0q, Z66_0q, fun k d => c66_0q (slices_IndexFunc_int64__lim_isRow_fn1__lim_isNet_L0 k k) d, e66_0q⟩
def A66q : Notes := ⟨[], [(2, L66_0q)]⟩
theorem Eo66q : EnvOK E66q := ⟨eqOK_none, sumsOf_ok (List.forall_mem_cons.2 ⟨Ro65q, List.forall_mem_nil _⟩)⟩
theorem El66q : SumsLocal E66q.sums := sumsOf_local (List.forall_mem_cons.2 ⟨Rl65q, List.forall_mem_nil _⟩)
theorem st66_0q (k : Nat) (rec : List Int → Int → Int → Option Z66_0q) (d : I66_0q.den) : c66_0q (slices_IndexFunc_int64__lim_isRow_fn1__lim_isNet_L0b k rec) d = evC E66q A66q k 1000 0 19 (loopAt (bodyOf Proofs.Try.f135) 0) (stOf (1000 + loopBase) I66_0q d) (roundK 1000 I66_0q O66_0q T66_0q (c66_0q rec)) := by
  obtain ⟨⟨⟨_, _⟩, _, ⟨_, _⟩, ⟨_, _⟩, _⟩, ⟨_, _⟩⟩ := d
  kernel_rfl
theorem lk66_0q : LoopOK Proofs.Try.prog 1000 0 19 (loopAt (bodyOf Proofs.Try.f135) 0) L66_0q :=
  loop_sound (A := A66q) (inS := I66_0q) (outs := O66_0q) Eo66q El66q mixed_orders (loopsOK_none (by kernel_rfl)) T66_0q e66_0q (by intro o R K; rcases o with o | o <;> rfl) (fun k n d => c66_0q (slices_IndexFunc_int64__lim_isRow_fn1__lim_isNet_L0 k n) d) (fun _ _ => rfl) (fun k n d => st66_0q k (slices_IndexFunc_int64__lim_isRow_fn1__lim_isNet_L0 k n) d)
def as66q : List AS := [.c (.dat false (.int .i64)), .fn 132 [[.fn 123]]]
def rs66q : RS := .c (.int .i64)
def pk66q : Int → RL rs66q.cells := fun x => (x, ())
def up66q : RL rs66q.cells → Int := fun d => d.1
def R66q : Nat × Entry := (135, fun k nm args h => entry as66q rs66q (fun d => slices_IndexFunc_int64__lim_isRow_fn1__lim_isNet k d.1) pk66q nm args h)
theorem ev66q (k : Nat) (d : AD as66q) : evF E66q A66q k 1000 0 Proofs.Try.f135 (absArgs as66q d).1 (absArgs as66q d).2 (outM rs66q up66q) = slices_IndexFunc_int64__lim_isRow_fn1__lim_isNet k d.1 := by
  obtain ⟨_, _, _⟩ := d
  kernel_rfl
theorem Ro66q : EntryOK Proofs.Try.prog R66q := fun k _ _ _ _ _ hy =>
  entry_sound (unpack := up66q) (A := A66q) (k := k) (pre := 1000) (na := 0) (E := E66q) Eo66q El66q mixed_orders (f := 135) (fn := Proofs.Try.f135) (by kernel_rfl) (body_loops (loopsOK_of (n := 1) (by kernel_rfl) fun i hi => match i, hi with | 0, _ => ⟨L66_0q, by kernel_rfl, lk66_0q⟩ | i + 1, hi => absurd hi (by omega))) (enters (fn := Proofs.Try.f135) (by kernel_rfl) (by kernel_rfl) (by kernel_rfl)) (fun _ => rfl) (ev66q k) hy
theorem Rl66q : EntryLocal R66q.2 := entry_local (S := fun k (d : AD as66q) => slices_IndexFunc_int64__lim_isRow_fn1__lim_isNet k d.1)

/-! ### slices.ContainsFunc[[]int64,int64] -/
noncomputable def E67q : Env := ⟨Proofs.Try.prog, fun _ => false, sumsOf [R66q]⟩
def A67q : Notes := ⟨[], []⟩
theorem Eo67q : EnvOK E67q := ⟨eqOK_none, sumsOf_ok (List.forall_mem_cons.2 ⟨Ro66q, List.forall_mem_nil _⟩)⟩
theorem El67q : SumsLocal E67q.sums := sumsOf_local (List.forall_mem_cons.2 ⟨Rl66q, List.forall_mem_nil _⟩)
def as67q : List AS := [.c (.dat false (.int .i64)), .fn 132 [[.fn 123]]]
def rs67q : RS := .c (.bool)
def pk67q : Bool → RL rs67q.cells := fun x => (x, ())
def up67q : RL rs67q.cells → Bool := fun d => d.1
def R67q : Nat × Entry := (131, fun k nm args h => entry as67q rs67q (fun d => slices_ContainsFunc_int64__lim_isRow_fn1__lim_isNet k d.1) pk67q nm args h)
theorem ev67q (k : Nat) (d : AD as67q) : evF E67q A67q k 1000 0 Proofs.Try.f131 (absArgs as67q d).1 (absArgs as67q d).2 (outM rs67q up67q) = slices_ContainsFunc_int64__lim_isRow_fn1__lim_isNet k d.1 := by
  obtain ⟨_, _, _⟩ := d
  kernel_rfl
theorem Ro67q : EntryOK Proofs.Try.prog R67q := fun k _ _ _ _ _ hy =>
  entry_sound (unpack := up67q) (A := A67q) (k := k) (pre := 1000) (na := 0) (E := E67q) Eo67q El67q mixed_orders (f := 131) (fn := Proofs.Try.f131) (by kernel_rfl) (body_loops (loopsOK_none (by kernel_rfl))) (enters (fn := Proofs.Try.f131) (by kernel_rfl) (by kernel_rfl) (by kernel_rfl)) (fun _ => rfl) (ev67q k) hy
theorem Rl67q : EntryLocal R67q.2 := entry_local (S := fun k (d : AD as67q) => slices_ContainsFunc_int64__lim_isRow_fn1__lim_isNet k d.1)

/-! ### giro/lim.isRow -/
noncomputable def E68q : Env := ⟨Proofs.Try.prog, fun _ => false, sumsOf [R67q]⟩
def A68q : Notes := ⟨[], []⟩
theorem Eo68q : EnvOK E68q := ⟨eqOK_none, sumsOf_ok (List.forall_mem_cons.2 ⟨Ro67q, List.forall_mem_nil _⟩)⟩
theorem El68q : SumsLocal E68q.sums := sumsOf_local (List.forall_mem_cons.2 ⟨Rl67q, List.forall_mem_nil _⟩)
def as68q : List AS := [.c (.dat false (.int .i64)), .c (.int .i64), .c (.fn 123)]
def rs68q : RS := .c (.bool)
def pk68q : Bool → RL rs68q.cells := fun x => (x, ())
def up68q : RL rs68q.cells → Bool := fun d => d.1
def R68q : Nat × Entry := (122, fun k nm args h => entry as68q rs68q (fun d => lim_isRow__lim_isNet k d.1 d.2.1) pk68q nm args h)
theorem ev68q (k : Nat) (d : AD as68q) : evF E68q A68q k 1000 0 Proofs.Try.f122 (absArgs as68q d).1 (absArgs as68q d).2 (outM rs68q up68q) = lim_isRow__lim_isNet k d.1 d.2.1 := by
  obtain ⟨_, _, _, _⟩ := d
  kernel_rfl
theorem Ro68q : EntryOK Proofs.Try.prog R68q := fun k _ _ _ _ _ hy =>
  entry_sound (unpack := up68q) (A := A68q) (k := k) (pre := 1000) (na := 0) (E := E68q) Eo68q El68q mixed_orders (f := 122) (fn := Proofs.Try.f122) (by kernel_rfl) (body_loops (loopsOK_none (by kernel_rfl))) (enters (fn := Proofs.Try.f122) (by kernel_rfl) (by kernel_rfl) (by kernel_rfl)) (fun _ => rfl) (ev68q k) hy
theorem Rl68q : EntryLocal R68q.2 := entry_local (S := fun k (d : AD as68q) => lim_isRow__lim_isNet k d.1 d.2.1)

/-! ### giro/lim.isSquare -/
noncomputable def E69q : Env := ⟨Proofs.Try.prog, fun _ => false, sumsOf [R68q]⟩
def I69_0q : Spec := ⟨[(1, .c (.int .i64)), (2, .c (.lit (.fn 123 []))), (13, .c (.dat false (.sl (.int .i64)))), (14, .c (.int .i64)), (15, .c (.int .i64))], [], []⟩
def X0_69_0q : Spec := ⟨[], [], []⟩
def X1_69_0q : Spec := ⟨[(6, .c (.bool))], [], []⟩
def O69_0q : List (Ex × Spec) := [(.exit 0, X0_69_0q), (.ret, X1_69_0q)]
abbrev Z69_0q : Type := Unit ⊕ Bool
def c69_0q (f : Int → List (List Int) → Int → Int → Option Z69_0q) (d : I69_0q.den) : Option Z69_0q := f d.1.1.1 d.1.2.2.1.1 d.1.2.2.2.1.1 d.1.2.2.2.2.1.1
def T69_0q : OutD O69_0q → Z69_0q
 | .inl d => .inl ()
 | .inr d => .inr d.1.1.1
def e69_0q (base : Nat) (x : Z69_0q) (R : Type) (K : Ex → St → Option R) : Option R := match x with
 | .inl x => K (.exit 0) (stOf base X0_69_0q ((), ()))
 | .inr x => K .ret (stOf base X1_69_0q (((x, ()), ()), ()))
def L69_0q : LoopSum := ⟨I69_0q, O69_0q, Z69_0q, fun k d => c69_0q (lim_isSquare__lim_isNet_L0 k k) d, e69_0q⟩
def A69q : Notes := ⟨[], [(4, L69_0q)]⟩
theorem Eo69q : EnvOK E69q := ⟨eqOK_none, sumsOf_ok (List.forall_mem_cons.2 ⟨Ro68q, List.forall_mem_nil _⟩)⟩
theorem El69q : SumsLocal E69q.sums := sumsOf_local (List.forall_mem_cons.2 ⟨Rl68q, List.forall_mem_nil _⟩)
theorem st69_0q (k : Nat) (rec : Int → List (List Int) → Int → Int → Option Z69_0q) (d : I69_0q.den) : c69_0q (lim_isSquare__lim_isNet_L0b k rec) d = evC E69q A69q k 1000 0 25 (loopAt (bodyOf Proofs.Try.f120) 0) (stOf (1000 + loopBase) I69_0q d) (roundK 1000 I69_0q O69_0q T69_0q (c69_0q rec)) := by
  obtain ⟨⟨⟨_, _⟩, _, ⟨_, _⟩, ⟨_, _⟩, ⟨_, _⟩, _⟩, _⟩ := d
  kernel_rfl
theorem lk69_0q : LoopOK Proofs.Try.prog 1000 0 25 (loopAt (bodyOf Proofs.Try.f120) 0) L69_0q :=
  loop_sound (A := A69q) (inS := I69_0q) (outs := O69_0q) Eo69q El69q mixed_orders (loopsOK_none (by kernel_rfl)) T69_0q e69_0q (by intro o R K; rcases o with o | o <;> rfl) (fun k n d => c69_0q (lim_isSquare__lim_isNet_L0 k n) d) (fun _ _ => rfl) (fun k n d => st69_0q k (lim_isSquare__lim_isNet_L0 k n) d)
def as69q : List AS := [.c (.dat false (.sl (.int .i64))), .c (.int .i64), .c (.fn 123)]
def rs69q : RS := .c (.bool)
def pk69q : Bool → RL rs69q.cells := fun x => (x, ())
def up69q : RL rs69q.cells → Bool := fun d => d.1
def R69q : Nat × Entry := (120, fun k nm args h => entry as69q rs69q (fun d => lim_isSquare__lim_isNet k d.1 d.2.1) pk69q nm args h)
theorem ev69q (k : Nat) (d : AD as69q) : evF E69q A69q k 1000 0 Proofs.Try.f120 (absArgs as69q d).1 (absArgs as69q d).2 (outM rs69q up69q) = lim_isSquare__lim_isNet k d.1 d.2.1 := by
  obtain ⟨_, _, _, _⟩ := d
  kernel_rfl
theorem Ro69q : EntryOK Proofs.Try.prog R69q := fun k _ _ _ _ _ hy =>
  entry_sound (unpack := up69q) (A := A69q) (k := k) (pre := 1000) (na := 0) (E := E69q) Eo69q El69q mixed_orders (f := 120) (fn := Proofs.Try.f120) (by kernel_rfl) (body_loops (loopsOK_of (n := 1) (by kernel_rfl) fun i hi => match i, hi with | 0, _ => ⟨L69_0q, by kernel_rfl, lk69_0q⟩ | i + 1, hi => absurd hi (by omega))) (enters (fn := Proofs.Try.f120) (by kernel_rfl) (by kernel_rfl) (by kernel_rfl)) (fun _ => rfl) (ev69q k) hy
theorem Rl69q : EntryLocal R69q.2 := entry_local (S := fun k (d : AD as69q) => lim_isSquare__lim_isNet k d.1 d.2.1)

/-! ### giro/lim.isTurned -/
noncomputable def E70q : Env := ⟨Proofs.Try.prog, fun _ => false, sumsOf []⟩
def I70_0q : Spec := ⟨[(0, .c (.dat false (.sl (.int .i64)))), (3, .c (.int .i64)), (7, .c (.dat false (.sl (.int .i64)))), (8, .c (.int .i64)), (9, .c (.int .i64)), (14, .c (.dat false (.int .i64))), (15, .c (.int .i64)), (16, .c (.int .i64))], [], []⟩
def X0_70_0q : Spec := ⟨[(0, .c (.dat false (.sl (.int .i64)))), (7, .c (.dat false (.sl (.int .i64)))), (8, .c (.int .i64)), (9, .c (.int .i64))], [], []⟩
def X1_70_0q : Spec := ⟨[(2, .c (.bool))], [], []⟩
def O70_0q : List (Ex × Spec) := [(.exit 2, X0_70_0q), (.ret, X1_70_0q)]
abbrev Z70_0q : Type := ((List (List Int)) × (List (List Int)) × Int × Int) ⊕ Bool
def c70_0q (f : List (List Int) → Int → List (List Int) → Int → Int → List Int → Int → Int → Option Z70_0q) (d : I70_0q.den) : Option Z70_0q := f d.1.1.1 d.1.2.1.1 d.1.2.2.1.1 d.1.2.2.2.1.1 d.1.2.2.2.2.1.1 d.1.2.2.2.2.2.1.1 d.1.2.2.2.2.2.2.1.1 d.1.2.2.2.2.2.2.2.1.1
def T70_0q : OutD O70_0q → Z70_0q
 | .inl d => .inl (d.1.1.1, d.1.2.1.1, d.1.2.2.1.1, d.1.2.2.2.1.1)
 | .inr d => .inr d.1.1.1
def e70_0q (base : Nat) (x : Z70_0q) (R : Type) (K : Ex → St → Option R) : Option R := match x with
 | .inl x => K (.exit 2) (stOf base X0_70_0q (((x.1, ()), (x.2.1, ()), (x.2.2.1, ()), (x.2.2.2, ()), ()), ()))
 | .inr x => K .ret (stOf base X1_70_0q (((x, ()), ()), ()))
def L70_0q : LoopSum := ⟨I70_0q, O70_0q, Z70_0q, fun k d => c70_0q (lim_isTurned_L1 k k) d, e70_0q⟩
def I70_1q : Spec := ⟨[(0, .c (.dat false (.sl (.int .i64)))), (7, .c (.dat false (.sl (.int .i64)))), (8, .c (.int .i64)), (9, .c (.int .i64))], [], []⟩
def X0_70_1q : Spec := ⟨[], [], []⟩
def X1_70_1q : Spec := ⟨[(2, .c (.bool))], [], []⟩
def O70_1q : List (Ex × Spec) := [(.exit 0, X0_70_1q), (.ret, X1_70_1q)]
abbrev Z70_1q : Type := Unit ⊕ Bool
def c70_1q (f : List (List Int) → List (List Int) → Int → Int → Option Z70_1q) (d : I70_1q.den) : Option Z70_1q := f d.1.1.1 d.1.2.1.1 d.1.2.2.1.1 d.1.2.2.2.1.1
def T70_1q : OutD O70_1q → Z70_1q
 | .inl d => .inl ()
 | .inr d => .inr d.1.1.1
def e70_1q (base : Nat) (x : Z70_1q) (R : Type) (K : Ex → St → Option R) : Option R := match x with
 | .inl x => K (.exit 0) (stOf base X0_70_1q ((), ()))
 | .inr x => K .ret (stOf base X1_70_1q (((x, ()), ()), ()))
def L70_1q : LoopSum := ⟨I70_1q, O70_1q, Z70_1q, fun k d => c70_1q (lim_isTurned_L0 k k) d, e70_1q⟩
def A70q : Notes := ⟨[], [(5, L70_0q), (2, L70_1q)]⟩
theorem Eo70q : EnvOK E70q := ⟨eqOK_none, sumsOf_ok (List.forall_mem_nil _)⟩
theorem El70q : SumsLocal E70q.sums := sumsOf_local (List.forall_mem_nil _)
theorem st70_0q (k : Nat) (rec : List (List Int) → Int → List (List Int) → Int → Int → List Int → Int → Int → Option Z70_0q) (d : I70_0q.den) : c70_0q (lim_isTurned_L1b k rec) d = evC E70q A70q k 1000 0 33 (loopAt (loopAt (bodyOf Proofs.Try.f124) 0) 0) (stOf (1000 + loopBase) I70_0q d) (roundK 1000 I70_0q O70_0q T70_0q (c70_0q rec)) := by
  obtain ⟨⟨⟨_, _⟩, ⟨_, _⟩, ⟨_, _⟩, ⟨_, _⟩, ⟨_, _⟩, ⟨_, _⟩, ⟨_, _⟩, ⟨_, _⟩, _⟩, _⟩ := d
  kernel_rfl
theorem lk70_0q : LoopOK Proofs.Try.prog 1000 0 33 (loopAt (loopAt (bodyOf Proofs.Try.f124) 0) 0) L70_0q :=
  loop_sound (A := A70q) (inS := I70_0q) (outs := O70_0q) Eo70q El70q mixed_orders (loopsOK_none (by kernel_rfl)) T70_0q e70_0q (by intro o R K; rcases o with o | o <;> rfl) (fun k n d => c70_0q (lim_isTurned_L1 k n) d) (fun _ _ => rfl) (fun k n d => st70_0q k (lim_isTurned_L1 k n) d)
theorem st70_1q (k : Nat) (rec : List (List Int) → List (List Int) → Int → Int → Option Z70_1q) (d : I70_1q.den) : c70_1q (lim_isTurned_L0b k rec) d = evC E70q A70q k 1000 0 33 (loopAt (bodyOf Proofs.Try.f124) 0) (stOf (1000 + loopBase) I70_1q d) (roundK 1000 I70_1q O70_1q T70_1q (c70_1q rec)) := by
  obtain ⟨⟨⟨_, _⟩, ⟨_, _⟩, ⟨_, _⟩, ⟨_, _⟩, _⟩, _⟩ := d
  kernel_rfl
theorem lk70_1q : LoopOK Proofs.Try.prog 1000 0 33 (loopAt (bodyOf Proofs.Try.f124) 0) L70_1q :=
  loop_sound (A := A70q) (inS := I70_1q) (outs := O70_1q) Eo70q El70q mixed_orders (loopsOK_of (n := 1) (by kernel_rfl) fun i hi => match i, hi with | 0, _ => ⟨L70_0q, by kernel_rfl, lk70_0q⟩ | i + 1, hi => absurd hi (by omega)) T70_1q e70_1q (by intro o R K; rcases o with o | o <;> rfl) (fun k n d => c70_1q (lim_isTurned_L0 k n) d) (fun _ _ => rfl) (fun k n d => st70_1q k (lim_isTurned_L0 k n) d)
def as70q : List AS := [.c (.dat false (.sl (.int .i64)))]
def rs70q : RS := .c (.bool)
def pk70q : Bool → RL rs70q.cells := fun x => (x, ())
def up70q : RL rs70q.cells → Bool := fun d => d.1
def R70q : Nat × Entry := (124, fun k nm args h => entry as70q rs70q (fun d => lim_isTurned k d.1) pk70q nm args h)
theorem ev70q (k : Nat) (d : AD as70q) : evF E70q A70q k 1000 0 Proofs.Try.f124 (absArgs as70q d).1 (absArgs as70q d).2 (outM rs70q up70q) = lim_isTurned k d.1 := by
  obtain ⟨_, _⟩ := d
  kernel_rfl
theorem Ro70q : EntryOK Proofs.Try.prog R70q := fun k _ _ _ _ _ hy =>
  entry_sound (unpack := up70q) (A := A70q) (k := k) (pre := 1000) (na := 0) (E := E70q) Eo70q El70q mixed_orders (f := 124) (fn := Proofs.Try.f124) (by kernel_rfl) (body_loops (loopsOK_of (n := 1) (by kernel_rfl) fun i hi => match i, hi with | 0, _ => ⟨L70_1q, by kernel_rfl, lk70_1q⟩ | i + 1, hi => absurd hi (by omega))) (enters (fn := Proofs.Try.f124) (by kernel_rfl) (by kernel_rfl) (by kernel_rfl)) (fun _ => rfl) (ev70q k) hy
theorem Rl70q : EntryLocal R70q.2 := entry_local (S := fun k (d : AD as70q) => lim_isTurned k d.1)

/-! ### giro/lim.Is -/
noncomputable def E71q : Env := ⟨Proofs.Try.prog, fun _ => false, sumsOf [R57q, R63q, R62q, R69q, R70q]⟩
def A71q : Notes := ⟨[], []⟩
theorem Eo71q : EnvOK E71q := ⟨eqOK_none, sumsOf_ok (List.forall_mem_cons.2 ⟨Ro57q, List.forall_mem_cons.2 ⟨Ro63q, List.forall_mem_cons.2 ⟨Ro62q, List.forall_mem_cons.2 ⟨Ro69q, List.forall_mem_cons.2 ⟨Ro70q, List.forall_mem_nil _⟩⟩⟩⟩⟩)⟩
theorem El71q : SumsLocal E71q.sums := sumsOf_local (List.forall_mem_cons.2 ⟨Rl57q, List.forall_mem_cons.2 ⟨Rl63q, List.forall_mem_cons.2 ⟨Rl62q, List.forall_mem_cons.2 ⟨Rl69q, List.forall_mem_cons.2 ⟨Rl70q, List.forall_mem_nil _⟩⟩⟩⟩⟩)
def as71q : List AS := [.agg [.dat false y3q, .dat false (.sl (.int .i64)), .dat false (.int .i64), .dat false (.sl (.int .i64))]]
def rs71q : RS := .c (.bool)
def pk71q : Bool → RL rs71q.cells := fun x => (x, ())
def up71q : RL rs71q.cells → Bool := fun d => d.1
def R71q : Nat × Entry := (98, fun k nm args h => entry as71q rs71q (fun d => lim_Is k d.1 d.2.1 d.2.2.1 d.2.2.2.1) pk71q nm args h)
theorem ev71q (k : Nat) (d : AD as71q) : evF E71q A71q k 1000 0 Proofs.Try.f98 (absArgs as71q d).1 (absArgs as71q d).2 (outM rs71q up71q) = lim_Is k d.1 d.2.1 d.2.2.1 d.2.2.2.1 := by
  obtain ⟨_, _, _, _, _⟩ := d
  kernel_rfl
theorem Ro71q : EntryOK Proofs.Try.prog R71q := fun k _ _ _ _ _ hy =>
  entry_sound (unpack := up71q) (A := A71q) (k := k) (pre := 1000) (na := 0) (E := E71q) Eo71q El71q mixed_orders (f := 98) (fn := Proofs.Try.f98) (by kernel_rfl) (body_loops (loopsOK_none (by kernel_rfl))) (enters (fn := Proofs.Try.f98) (by kernel_rfl) (by kernel_rfl) (by kernel_rfl)) (fun _ => rfl) (ev71q k) hy
theorem Rl71q : EntryLocal R71q.2 := entry_local (S := fun k (d : AD as71q) => lim_Is k d.1 d.2.1 d.2.2.1 d.2.2.2.1)

/-! ### giro/post.Post -/
noncomputable def E72q : Env := ⟨Proofs.Try.prog, fun _ => false, sumsOf [R48q, R53q, R27q, R71q]⟩
def I72_0q : Spec := ⟨[(2, .c (.lit (.ptr 1001000 0))), (4, .c (.lit (.ptr 1001001 0))), (7, .c (.lit (.ptr 1001002 0))), (24, .c (.dat false y7q)), (25, .c (.int .i64)), (26, .c (.int .i64))], [.box true [.dat true y3q, .dat true (.sl (.int .i64)), .dat true (.int .i64), .dat true (.sl (.int .i64))], .box true [.lit .nsl, .lit .nsl, .lit .nsl, .lit .nsl], .box true [.lit (.osl 1001003 none), .lit (.osl 1001004 none), .lit (.osl 1001005 none), .lit (.osl 1001006 none)], .arr true y3q, .mat, .arr true (.int .i64), .mat], []⟩
def X0_72_0q : Spec := ⟨[(2, .c (.lit (.ptr 1001000 0))), (4, .c (.lit (.ptr 1001001 0))), (7, .c (.lit (.ptr 1001002 0)))], [.box true [.dat true y3q, .dat true (.sl (.int .i64)), .dat true (.int .i64), .dat true (.sl (.int .i64))], .box true [.lit .nsl, .lit .nsl, .lit .nsl, .lit .nsl], .box true [.lit (.osl 1001003 none), .lit (.osl 1001004 none), .lit (.osl 1001005 none), .lit (.osl 1001006 none)], .arr true y3q, .mat, .arr true (.int .i64), .mat], []⟩
def O72_0q : List (Ex × Spec) := [(.exit 0, X0_72_0q)]
abbrev Z72_0q : Type := (List K2q) × (List (List Int)) × (List Int) × (List (List Int)) × (List K2q) × (List (List Int)) × (List Int) × (List (List Int))
def c72_0q (f : List K1q → Int → Int → List K2q → List (List Int) → List Int → List (List Int) → List K2q → List (List Int) → List Int → List (List Int) → Option Z72_0q) (d : I72_0q.den) : Option Z72_0q := f d.1.2.2.2.1.1 d.1.2.2.2.2.1.1 d.1.2.2.2.2.2.1.1 d.2.1.1 d.2.1.2.1 d.2.1.2.2.1 d.2.1.2.2.2.1 d.2.2.2.2.1 d.2.2.2.2.2.1 d.2.2.2.2.2.2.1 d.2.2.2.2.2.2.2.1
def T72_0q : OutD O72_0q → Z72_0q := fun d => (d.2.1.1, d.2.1.2.1, d.2.1.2.2.1, d.2.1.2.2.2.1, d.2.2.2.2.1, d.2.2.2.2.2.1, d.2.2.2.2.2.2.1, d.2.2.2.2.2.2.2.1)
def e72_0q (base : Nat) (x : Z72_0q) (R : Type) (K : Ex → St → Option R) : Option R := K (.exit 0) (stOf base X0_72_0q (((), (), (), ()), ((x.1, x.2.1, x.2.2.1, x.2.2.2.1, ()), (), (), x.2.2.2.2.1, x.2.2.2.2.2.1, x.2.2.2.2.2.2.1, x.2.2.2.2.2.2.2, ())))
def L72_0q : LoopSum := ⟨I72_0q, O72_0q, Z72_0q, fun k d => c72_0q (post_Post_L0 k k) d, e72_0q⟩
def A72q : Notes := ⟨[], [(6, L72_0q)]⟩
theorem Eo72q : EnvOK E72q := ⟨eqOK_none, sumsOf_ok (List.forall_mem_cons.2 ⟨Ro48q, List.forall_mem_cons.2 ⟨Ro53q, List.forall_mem_cons.2 ⟨Ro27q, List.forall_mem_cons.2 ⟨Ro71q, List.forall_mem_nil _⟩⟩⟩⟩)⟩
theorem El72q : SumsLocal E72q.sums := sumsOf_local (List.forall_mem_cons.2 ⟨Rl48q, List.forall_mem_cons.2 ⟨Rl53q, List.forall_mem_cons.2 ⟨Rl27q, List.forall_mem_cons.2 ⟨Rl71q, List.forall_mem_nil _⟩⟩⟩⟩)
theorem st72_0q (k : Nat) (rec : List K1q → Int → Int → List K2q → List (List Int) → List Int → List (List Int) → List K2q → List (List Int) → List Int → List (List Int) → Option Z72_0q) (d : I72_0q.den) : c72_0q (post_Post_L0b k rec) d = evC E72q A72q k 1000 0 104 (loopAt (bodyOf Proofs.Try.f53) 0) (stOf (1000 + loopBase) I72_0q d) (roundK 1000 I72_0q O72_0q T72_0q (c72_0q rec)) := by
  obtain ⟨⟨_, _, _, ⟨_, _⟩, ⟨_, _⟩, ⟨_, _⟩, _⟩, ⟨⟨_, _, _, _, _⟩, _, _, _, _, _, _, _⟩⟩ := d
  kernel_rfl
theorem lk72_0q : LoopOK Proofs.Try.prog 1000 0 104 (loopAt (bodyOf Proofs.Try.f53) 0) L72_0q :=
  loop_sound (A := A72q) (inS := I72_0q) (outs := O72_0q) Eo72q El72q mixed_orders (loopsOK_none (by kernel_rfl)) T72_0q e72_0q (fun _ _ _ => rfl) (fun k n d => c72_0q (post_Post_L0 k n) d) (fun _ _ => rfl) (fun k n d => st72_0q k (post_Post_L0 k n) d)
def as72q : List AS := [.agg [.dat true y3q, .dat true (.sl (.int .i64)), .dat true (.int .i64), .dat true (.sl (.int .i64))], .c (.dat false y7q)]
def rs72q : RS := .tup [(true, [.fro y3q, .fro (.sl (.int .i64)), .fro (.int .i64), .fro (.sl (.int .i64))]), (false, [.int .i64])]
def pk72q : (List K2q) × (List (List Int)) × (List Int) × (List (List Int)) × Int → RL rs72q.cells := fun x => (x.1, x.2.1, x.2.2.1, x.2.2.2.1, x.2.2.2.2, ())
def up72q : RL rs72q.cells → (List K2q) × (List (List Int)) × (List Int) × (List (List Int)) × Int := fun d => (d.1, d.2.1, d.2.2.1, d.2.2.2.1, d.2.2.2.2.1)
def R72q : Nat × Entry := (53, fun k nm args h => entry as72q rs72q (fun d => post_Post k d.1 d.2.1 d.2.2.1 d.2.2.2.1 d.2.2.2.2.1) pk72q nm args h)
theorem ev72q (k : Nat) (d : AD as72q) : evF E72q A72q k 1000 0 Proofs.Try.f53 (absArgs as72q d).1 (absArgs as72q d).2 (outM rs72q up72q) = post_Post k d.1 d.2.1 d.2.2.1 d.2.2.2.1 d.2.2.2.2.1 := by
  obtain ⟨_, _, _, _, _, _⟩ := d
  kernel_rfl
theorem Ro72q : EntryOK Proofs.Try.prog R72q := fun k _ _ _ _ _ hy =>
  entry_sound (unpack := up72q) (A := A72q) (k := k) (pre := 1000) (na := 0) (E := E72q) Eo72q El72q mixed_orders (f := 53) (fn := Proofs.Try.f53) (by kernel_rfl) (body_loops (loopsOK_of (n := 1) (by kernel_rfl) fun i hi => match i, hi with | 0, _ => ⟨L72_0q, by kernel_rfl, lk72_0q⟩ | i + 1, hi => absurd hi (by omega))) (enters (fn := Proofs.Try.f53) (by kernel_rfl) (by kernel_rfl) (by kernel_rfl)) (fun _ => rfl) (ev72q k) hy
theorem Rl72q : EntryLocal R72q.2 := entry_local (S := fun k (d : AD as72q) => post_Post k d.1 d.2.1 d.2.2.1 d.2.2.2.1 d.2.2.2.2.1)

/-! ### giro/row.Find$1 -/
noncomputable def E73q : Env := ⟨Proofs.Try.prog, fun _ => false, sumsOf []⟩
def A73q : Notes := ⟨[], []⟩
theorem Eo73q : EnvOK E73q := ⟨eqOK_none, sumsOf_ok (List.forall_mem_nil _)⟩
theorem El73q : SumsLocal E73q.sums := sumsOf_local (List.forall_mem_nil _)
def as73q : List AS := [.agg [.int .i64, .int .i64, .int .i64, .int .i64, .int .i64, .int .i64, .int .i64], .ptr [.int .i64]]
def rs73q : RS := .c (.bool)
def pk73q : Bool → RL rs73q.cells := fun x => (x, ())
def up73q : RL rs73q.cells → Bool := fun d => d.1
def R73q : Nat × Entry := (125, fun k nm args h => entry as73q rs73q (fun d => row_Find_fn1 k d.1 d.2.1 d.2.2.1 d.2.2.2.1 d.2.2.2.2.1 d.2.2.2.2.2.1 d.2.2.2.2.2.2.1 d.2.2.2.2.2.2.2.1) pk73q nm args h)
theorem ev73q (k : Nat) (d : AD as73q) : evF E73q A73q k 1000 0 Proofs.Try.f125 (absArgs as73q d).1 (absArgs as73q d).2 (outM rs73q up73q) = row_Find_fn1 k d.1 d.2.1 d.2.2.1 d.2.2.2.1 d.2.2.2.2.1 d.2.2.2.2.2.1 d.2.2.2.2.2.2.1 d.2.2.2.2.2.2.2.1 := by
  obtain ⟨_, _, _, _, _, _, _, _, _⟩ := d
  kernel_rfl
theorem Ro73q : EntryOK Proofs.Try.prog R73q := fun k _ _ _ _ _ hy =>
  entry_sound (unpack := up73q) (A := A73q) (k := k) (pre := 1000) (na := 0) (E := E73q) Eo73q El73q mixed_orders (f := 125) (fn := Proofs.Try.f125) (by kernel_rfl) (body_loops (loopsOK_none (by kernel_rfl))) (enters (fn := Proofs.Try.f125) (by kernel_rfl) (by kernel_rfl) (by kernel_rfl)) (fun _ => rfl) (ev73q k) hy
theorem Rl73q : EntryLocal R73q.2 := entry_local (S := fun k (d : AD as73q) => row_Find_fn1 k d.1 d.2.1 d.2.2.1 d.2.2.2.1 d.2.2.2.2.1 d.2.2.2.2.2.1 d.2.2.2.2.2.2.1 d.2.2.2.2.2.2.2.1)

/-! ### slices.IndexFunc[[]giro/api.Pay,giro/api.Pay] -/
noncomputable def E74q : Env := ⟨Proofs.Try.prog, fun _ => false, sumsOf [R73q]⟩
def I74_0q : Spec := ⟨[(0, .c (.dat false y7q)), (1, .c (.lit (.fn 125 [1001000]))), (7, .c (.int .i64)), (8, .c (.int .i64))], [.robox [.int .i64]], []⟩
def X0_74_0q : Spec := ⟨[], [], []⟩
def X1_74_0q : Spec := ⟨[(4, .c (.int .i64))], [], []⟩
def O74_0q : List (Ex × Spec) := [(.exit 0, X0_74_0q), (.ret, X1_74_0q)]
abbrev Z74_0q : Type := Unit ⊕ Int
def c74_0q (f : List K1q → Int → Int → Int → Option Z74_0q) (d : I74_0q.den) : Option Z74_0q := f d.1.1.1 d.1.2.2.1.1 d.1.2.2.2.1.1 d.2.1.1
def T74_0q : OutD O74_0q → Z74_0q
 | .inl d => .inl ()
 | .inr d => .inr d.1.1.1
def e74_0q (base : Nat) (x : Z74_0q) (R : Type) (K : Ex → St → Option R) : Option R := match x with
 | .inl x => K (.exit 0) (stOf base X0_74_0q ((), ()))
 | .inr x => K .ret (stOf base X1_74_0q (((x, ()), ()), ()))
def L74_0q : LoopSum := ⟨I74_0q, O74_0q, Z74_0q, fun k d => c74_0q (slices_IndexFunc_Pay__row_Find_fn1_L0 k k) d, e74_0q⟩
def A74q : Notes := ⟨[], [(2, L74_0q)]⟩
theorem Eo74q : EnvOK E74q := ⟨eqOK_none, sumsOf_ok (List.forall_mem_cons.2 ⟨Ro73q, List.forall_mem_nil _⟩)⟩
theorem El74q : SumsLocal E74q.sums := sumsOf_local (List.forall_mem_cons.2 ⟨Rl73q, List.forall_mem_nil _⟩)
theorem st74_0q (k : Nat) (rec : List K1q → Int → Int → Int → Option Z74_0q) (d : I74_0q.den) : c74_0q (slices_IndexFunc_Pay__row_Find_fn1_L0b k rec) d = evC E74q A74q k 1000 0 19 (loopAt (bodyOf Proofs.Try.f109) 0) (stOf (1000 + loopBase) I74_0q d) (roundK 1000 I74_0q O74_0q T74_0q (c74_0q rec)) := by
  obtain ⟨⟨⟨_, _⟩, _, ⟨_, _⟩, ⟨_, _⟩, _⟩, ⟨⟨_, _⟩, _⟩⟩ := d
  kernel_rfl
theorem lk74_0q : LoopOK Proofs.Try.prog 1000 0 19 (loopAt (bodyOf Proofs.Try.f109) 0) L74_0q :=
  loop_sound (A := A74q) (inS := I74_0q) (outs := O74_0q) Eo74q El74q mixed_orders (loopsOK_none (by kernel_rfl)) T74_0q e74_0q (by intro o R K; rcases o with o | o <;> rfl) (fun k n d => c74_0q (slices_IndexFunc_Pay__row_Find_fn1_L0 k n) d) (fun _ _ => rfl) (fun k n d => st74_0q k (slices_IndexFunc_Pay__row_Find_fn1_L0 k n) d)
def as74q : List AS := [.c (.dat false y7q), .fn 125 [[.int .i64]]]
def rs74q : RS := .c (.int .i64)
def pk74q : Int → RL rs74q.cells := fun x => (x, ())
def up74q : RL rs74q.cells → Int := fun d => d.1
def R74q : Nat × Entry := (109, fun k nm args h => entry as74q rs74q (fun d => slices_IndexFunc_Pay__row_Find_fn1 k d.1 d.2.1) pk74q nm args h)
theorem ev74q (k : Nat) (d : AD as74q) : evF E74q A74q k 1000 0 Proofs.Try.f109 (absArgs as74q d).1 (absArgs as74q d).2 (outM rs74q up74q) = slices_IndexFunc_Pay__row_Find_fn1 k d.1 d.2.1 := by
  obtain ⟨_, _, _⟩ := d
  kernel_rfl
theorem Ro74q : EntryOK Proofs.Try.prog R74q := fun k _ _ _ _ _ hy =>
  entry_sound (unpack := up74q) (A := A74q) (k := k) (pre := 1000) (na := 0) (E := E74q) Eo74q El74q mixed_orders (f := 109) (fn := Proofs.Try.f109) (by kernel_rfl) (body_loops (loopsOK_of (n := 1) (by kernel_rfl) fun i hi => match i, hi with | 0, _ => ⟨L74_0q, by kernel_rfl, lk74_0q⟩ | i + 1, hi => absurd hi (by omega))) (enters (fn := Proofs.Try.f109) (by kernel_rfl) (by kernel_rfl) (by kernel_rfl)) (fun _ => rfl) (ev74q k) hy
theorem Rl74q : EntryLocal R74q.2 := entry_local (S := fun k (d : AD as74q) => slices_IndexFunc_Pay__row_Find_fn1 k d.1 d.2.1)

/-! ### giro/row.Find -/
noncomputable def E75q : Env := ⟨Proofs.Try.prog, fun _ => false, sumsOf [R74q]⟩
def A75q : Notes := ⟨[], []⟩
theorem Eo75q : EnvOK E75q := ⟨eqOK_none, sumsOf_ok (List.forall_mem_cons.2 ⟨Ro74q, List.forall_mem_nil _⟩)⟩
theorem El75q : SumsLocal E75q.sums := sumsOf_local (List.forall_mem_cons.2 ⟨Rl74q, List.forall_mem_nil _⟩)
def as75q : List AS := [.c (.dat false y7q), .c (.int .i64)]
def rs75q : RS := .c (.int .i64)
def pk75q : Int → RL rs75q.cells := fun x => (x, ())
def up75q : RL rs75q.cells → Int := fun d => d.1
def R75q : Nat × Entry := (99, fun k nm args h => entry as75q rs75q (fun d => row_Find k d.1 d.2.1) pk75q nm args h)
theorem ev75q (k : Nat) (d : AD as75q) : evF E75q A75q k 1000 0 Proofs.Try.f99 (absArgs as75q d).1 (absArgs as75q d).2 (outM rs75q up75q) = row_Find k d.1 d.2.1 := by
  obtain ⟨_, _, _⟩ := d
  kernel_rfl
theorem Ro75q : EntryOK Proofs.Try.prog R75q := fun k _ _ _ _ _ hy =>
  entry_sound (unpack := up75q) (A := A75q) (k := k) (pre := 1000) (na := 0) (E := E75q) Eo75q El75q mixed_orders (f := 99) (fn := Proofs.Try.f99) (by kernel_rfl) (body_loops (loopsOK_none (by kernel_rfl))) (enters (fn := Proofs.Try.f99) (by kernel_rfl) (by kernel_rfl) (by kernel_rfl)) (fun _ => rfl) (ev75q k) hy
theorem Rl75q : EntryLocal R75q.2 := entry_local (S := fun k (d : AD as75q) => row_Find k d.1 d.2.1)

/-! ### slices.Clone[[]giro/api.Pay,giro/api.Pay] -/
noncomputable def E76q : Env := ⟨Proofs.Try.prog, fun _ => false, sumsOf []⟩
def A76q : Notes := ⟨[], []⟩
theorem Eo76q : EnvOK E76q := ⟨eqOK_none, sumsOf_ok (List.forall_mem_nil _)⟩
theorem El76q : SumsLocal E76q.sums := sumsOf_local (List.forall_mem_nil _)
def as76q : List AS := [.c (.dat false y7q)]
def rs76q : RS := .c (.own y7q)
def pk76q : List K1q → RL rs76q.cells := fun x => (x, ())
def up76q : RL rs76q.cells → List K1q := fun d => d.1
def R76q : Nat × Entry := (101, fun k nm args h => entry as76q rs76q (fun d => slices_Clone_Pay k d.1) pk76q nm args h)
theorem nil76q (k : Nat) : evF E76q A76q k 1000 0 Proofs.Try.f101 [.c .nsl] (boxHp []) (outM rs76q up76q) = slices_Clone_Pay k [] := by kernel_rfl
theorem ev76q (k : Nat) (xs : List K1q) : evF E76q A76q k 1000 0 Proofs.Try.f101 [.c (.nfl false y7q xs)] (boxHp []) (outM rs76q up76q) = slices_Clone_Pay k xs := by kernel_rfl
theorem Ro76q : EntryOK Proofs.Try.prog R76q := fun k _ _ _ _ _ hy =>
  entry_nil (t := y7q) (S := fun xs => slices_Clone_Pay k xs) (unpack := up76q) (A := A76q) (k := k) (pre := 1000) (na := 0) (E := E76q) Eo76q El76q mixed_orders (f := 101) (fn := Proofs.Try.f101) (by kernel_rfl) (body_loops (loopsOK_none (by kernel_rfl))) (enters (fn := Proofs.Try.f101) (by kernel_rfl) (by kernel_rfl) (by kernel_rfl)) (fun _ => rfl) (fun x hx => (nil76q k).trans hx) (fun xs x hx => (ev76q k xs).trans hx) hy
theorem Rl76q : EntryLocal R76q.2 := entry_local (S := fun k (d : AD as76q) => slices_Clone_Pay k d.1)

/-! ### slices.Delete[[]giro/api.Pay,giro/api.Pay] -/
noncomputable def E77q : Env := ⟨Proofs.Try.prog, fun _ => false, sumsOf []⟩
def A77q : Notes := ⟨[], []⟩
theorem Eo77q : EnvOK E77q := ⟨eqOK_none, sumsOf_ok (List.forall_mem_nil _)⟩
theorem El77q : SumsLocal E77q.sums := sumsOf_local (List.forall_mem_nil _)
def as77q : List AX := [.c (.own y7q), .c (.p (.int .i64)), .c (.p (.int .i64))]
def rs77q : RS := .c (.own y7q)
def os77q : List (List RC) := []
def pk77q : List K1q → RL (rs77q.cells ++ os77q.flatten) := fun x => (x, ())
def up77q : RL (rs77q.cells ++ os77q.flatten) → List K1q := fun d => d.1
def R77q : Nat × Entry := (100, fun k nm args h => entryX as77q rs77q os77q (fun d => slices_Delete_Pay k d.1 d.2.1 d.2.2.1) pk77q nm args h)
theorem ev77q (k : Nat) (d : XD as77q) : evF E77q A77q k 1000 0 Proofs.Try.f100 (absArgsX as77q d).1 (absArgsX as77q d).2 (outXM as77q rs77q os77q up77q) = slices_Delete_Pay k d.1 d.2.1 d.2.2.1 := by
  obtain ⟨_, _, _, _⟩ := d
  kernel_rfl
theorem Ro77q : EntryOK Proofs.Try.prog R77q := fun k _ _ _ _ _ hy =>
  entryX_sound (unpack := up77q) (A := A77q) (k := k) (pre := 1000) (na := 0) (E := E77q) Eo77q El77q mixed_orders (f := 100) (fn := Proofs.Try.f100) (by kernel_rfl) (body_loops (loopsOK_none (by kernel_rfl))) (enters (fn := Proofs.Try.f100) (by kernel_rfl) (by kernel_rfl) (by kernel_rfl)) (fun _ => rfl) (by kernel_rfl) (ev77q k) hy
theorem Rl77q : EntryLocal R77q.2 := entryX_local (S := fun k (d : XD as77q) => slices_Delete_Pay k d.1 d.2.1 d.2.2.1)

/-! ### giro/row.Drop -/
noncomputable def E78q : Env := ⟨Proofs.Try.prog, fun _ => false, sumsOf [R75q, R76q, R77q]⟩
def A78q : Notes := ⟨[], []⟩
theorem Eo78q : EnvOK E78q := ⟨eqOK_none, sumsOf_ok (List.forall_mem_cons.2 ⟨Ro75q, List.forall_mem_cons.2 ⟨Ro76q, List.forall_mem_cons.2 ⟨Ro77q, List.forall_mem_nil _⟩⟩⟩)⟩
theorem El78q : SumsLocal E78q.sums := sumsOf_local (List.forall_mem_cons.2 ⟨Rl75q, List.forall_mem_cons.2 ⟨Rl76q, List.forall_mem_cons.2 ⟨Rl77q, List.forall_mem_nil _⟩⟩⟩)
def as78q : List AS := [.c (.dat true y7q), .c (.int .i64)]
def rs78q : RS := .tup [(false, [.fro y7q]), (true, [.int .i64, .int .i64, .int .i64, .int .i64, .int .i64, .int .i64, .int .i64]), (false, [.int .i64])]
def pk78q : (List K1q) × Int × Int × Int × Int × Int × Int × Int × Int → RL rs78q.cells := fun x => (x.1, x.2.1, x.2.2.1, x.2.2.2.1, x.2.2.2.2.1, x.2.2.2.2.2.1, x.2.2.2.2.2.2.1, x.2.2.2.2.2.2.2.1, x.2.2.2.2.2.2.2.2, ())
def up78q : RL rs78q.cells → (List K1q) × Int × Int × Int × Int × Int × Int × Int × Int := fun d => (d.1, d.2.1, d.2.2.1, d.2.2.2.1, d.2.2.2.2.1, d.2.2.2.2.2.1, d.2.2.2.2.2.2.1, d.2.2.2.2.2.2.2.1, d.2.2.2.2.2.2.2.2.1)
def R78q : Nat × Entry := (54, fun k nm args h => entry as78q rs78q (fun d => row_Drop k d.1 d.2.1) pk78q nm args h)
theorem ev78q (k : Nat) (d : AD as78q) : evF E78q A78q k 1000 0 Proofs.Try.f54 (absArgs as78q d).1 (absArgs as78q d).2 (outM rs78q up78q) = row_Drop k d.1 d.2.1 := by
  obtain ⟨_, _, _⟩ := d
  kernel_rfl
theorem Ro78q : EntryOK Proofs.Try.prog R78q := fun k _ _ _ _ _ hy =>
  entry_sound (unpack := up78q) (A := A78q) (k := k) (pre := 1000) (na := 0) (E := E78q) Eo78q El78q mixed_orders (f := 54) (fn := Proofs.Try.f54) (by kernel_rfl) (body_loops (loopsOK_none (by kernel_rfl))) (enters (fn := Proofs.Try.f54) (by kernel_rfl) (by kernel_rfl) (by kernel_rfl)) (fun _ => rfl) (ev78q k) hy
theorem Rl78q : EntryLocal R78q.2 := entry_local (S := fun k (d : AD as78q) => row_Drop k d.1 d.2.1)

/-! ### giro/knot.Run -/
noncomputable def E79q : Env := ⟨Proofs.Try.prog, fun _ => false, sumsOf [R33q, R10q, R17q, R72q, R78q]⟩
def I79_0q : Spec := ⟨[(6, .c (.lit (.ptr 1001000 0))), (7, .c (.dat true y7q)), (11, .c (.lit (.osl 1001001 none))), (38, .c (.lit (.osl 1001001 none))), (39, .c (.int .i64)), (40, .c (.int .i64))], [.box true [.dat true y3q, .dat true (.sl (.int .i64)), .dat true (.int .i64), .dat true (.sl (.int .i64))], .arr true y7q], []⟩
def X0_79_0q : Spec := ⟨[(6, .c (.lit (.ptr 1001000 0))), (7, .c (.dat true y7q)), (11, .c (.lit (.osl 1001001 none)))], [.box true [.dat true y3q, .dat true (.sl (.int .i64)), .dat true (.int .i64), .dat true (.sl (.int .i64))], .arr true y7q], []⟩
def O79_0q : List (Ex × Spec) := [(.exit 0, X0_79_0q)]
abbrev Z79_0q : Type := (List K1q) × (List K2q) × (List (List Int)) × (List Int) × (List (List Int)) × (List K1q)
def c79_0q (f : List K1q → Int → Int → List K2q → List (List Int) → List Int → List (List Int) → List K1q → Option Z79_0q) (d : I79_0q.den) : Option Z79_0q := f d.1.2.1.1 d.1.2.2.2.2.1.1 d.1.2.2.2.2.2.1.1 d.2.1.1 d.2.1.2.1 d.2.1.2.2.1 d.2.1.2.2.2.1 d.2.2.1
def T79_0q : OutD O79_0q → Z79_0q := fun d => (d.1.2.1.1, d.2.1.1, d.2.1.2.1, d.2.1.2.2.1, d.2.1.2.2.2.1, d.2.2.1)
def e79_0q (base : Nat) (x : Z79_0q) (R : Type) (K : Ex → St → Option R) : Option R := K (.exit 0) (stOf base X0_79_0q (((), (x.1, ()), (), ()), ((x.2.1, x.2.2.1, x.2.2.2.1, x.2.2.2.2.1, ()), x.2.2.2.2.2, ())))
def L79_0q : LoopSum := ⟨I79_0q, O79_0q, Z79_0q, fun k d => c79_0q (knot_Run_L0 k k) d, e79_0q⟩
def A79q : Notes := ⟨[], [(8, L79_0q)]⟩
theorem Eo79q : EnvOK E79q := ⟨eqOK_none, sumsOf_ok (List.forall_mem_cons.2 ⟨Ro33q, List.forall_mem_cons.2 ⟨Ro10q, List.forall_mem_cons.2 ⟨Ro17q, List.forall_mem_cons.2 ⟨Ro72q, List.forall_mem_cons.2 ⟨Ro78q, List.forall_mem_nil _⟩⟩⟩⟩⟩)⟩
theorem El79q : SumsLocal E79q.sums := sumsOf_local (List.forall_mem_cons.2 ⟨Rl33q, List.forall_mem_cons.2 ⟨Rl10q, List.forall_mem_cons.2 ⟨Rl17q, List.forall_mem_cons.2 ⟨Rl72q, List.forall_mem_cons.2 ⟨Rl78q, List.forall_mem_nil _⟩⟩⟩⟩⟩)
theorem st79_0q (k : Nat) (rec : List K1q → Int → Int → List K2q → List (List Int) → List Int → List (List Int) → List K1q → Option Z79_0q) (d : I79_0q.den) : c79_0q (knot_Run_L0b k rec) d = evC E79q A79q k 1000 0 56 (loopAt (bodyOf Proofs.Try.f17) 0) (stOf (1000 + loopBase) I79_0q d) (roundK 1000 I79_0q O79_0q T79_0q (c79_0q rec)) := by
  obtain ⟨⟨_, ⟨_, _⟩, _, _, ⟨_, _⟩, ⟨_, _⟩, _⟩, ⟨⟨_, _, _, _, _⟩, _, _⟩⟩ := d
  kernel_rfl
theorem lk79_0q : LoopOK Proofs.Try.prog 1000 0 56 (loopAt (bodyOf Proofs.Try.f17) 0) L79_0q :=
  loop_sound (A := A79q) (inS := I79_0q) (outs := O79_0q) Eo79q El79q mixed_orders (loopsOK_none (by kernel_rfl)) T79_0q e79_0q (fun _ _ _ => rfl) (fun k n d => c79_0q (knot_Run_L0 k n) d) (fun _ _ => rfl) (fun k n d => st79_0q k (knot_Run_L0 k n) d)
def as79q : List AS := [.agg [.dat true y3q, .dat true (.sl (.int .i64)), .dat true (.int .i64), .dat true (.sl (.int .i64))], .c (.dat true y7q), .c (.int .i64)]
def rs79q : RS := .tup [(true, [.fro y3q, .fro (.sl (.int .i64)), .fro (.int .i64), .fro (.sl (.int .i64))]), (false, [.fro y7q]), (false, [.own y7q])]
def pk79q : (List K2q) × (List (List Int)) × (List Int) × (List (List Int)) × (List K1q) × (List K1q) → RL rs79q.cells := fun x => (x.1, x.2.1, x.2.2.1, x.2.2.2.1, x.2.2.2.2.1, x.2.2.2.2.2, ())
def up79q : RL rs79q.cells → (List K2q) × (List (List Int)) × (List Int) × (List (List Int)) × (List K1q) × (List K1q) := fun d => (d.1, d.2.1, d.2.2.1, d.2.2.2.1, d.2.2.2.2.1, d.2.2.2.2.2.1)
def R79q : Nat × Entry := (17, fun k nm args h => entry as79q rs79q (fun d => knot_Run k d.1 d.2.1 d.2.2.1 d.2.2.2.1 d.2.2.2.2.1 d.2.2.2.2.2.1) pk79q nm args h)
theorem ev79q (k : Nat) (d : AD as79q) : evF E79q A79q k 1000 0 Proofs.Try.f17 (absArgs as79q d).1 (absArgs as79q d).2 (outM rs79q up79q) = knot_Run k d.1 d.2.1 d.2.2.1 d.2.2.2.1 d.2.2.2.2.1 d.2.2.2.2.2.1 := by
  obtain ⟨_, _, _, _, _, _, _⟩ := d
  kernel_rfl
theorem Ro79q : EntryOK Proofs.Try.prog R79q := fun k _ _ _ _ _ hy =>
  entry_sound (unpack := up79q) (A := A79q) (k := k) (pre := 1000) (na := 0) (E := E79q) Eo79q El79q mixed_orders (f := 17) (fn := Proofs.Try.f17) (by kernel_rfl) (body_loops (loopsOK_of (n := 1) (by kernel_rfl) fun i hi => match i, hi with | 0, _ => ⟨L79_0q, by kernel_rfl, lk79_0q⟩ | i + 1, hi => absurd hi (by omega))) (enters (fn := Proofs.Try.f17) (by kernel_rfl) (by kernel_rfl) (by kernel_rfl)) (fun _ => rfl) (ev79q k) hy
theorem Rl79q : EntryLocal R79q.2 := entry_local (S := fun k (d : AD as79q) => knot_Run k d.1 d.2.1 d.2.2.1 d.2.2.2.1 d.2.2.2.2.1 d.2.2.2.2.2.1)

/-! ### giro/giroref15.May -/
noncomputable def E80q : Env := ⟨Proofs.Try.prog, fun _ => false, sumsOf []⟩
def A80q : Notes := ⟨[], []⟩
theorem Eo80q : EnvOK E80q := ⟨eqOK_none, sumsOf_ok (List.forall_mem_nil _)⟩
theorem El80q : SumsLocal E80q.sums := sumsOf_local (List.forall_mem_nil _)
def as80q : List AS := [.agg [.dat false y3q, .dat false (.sl (.int .i64)), .dat false (.int .i64), .dat false (.sl (.int .i64))], .agg [.int .i64, .int .i64, .int .i64, .int .i64, .int .i64, .int .i64, .int .i64]]
def rs80q : RS := .c (.bool)
def pk80q : Bool → RL rs80q.cells := fun x => (x, ())
def up80q : RL rs80q.cells → Bool := fun d => d.1
def R80q : Nat × Entry := (60, fun k nm args h => entry as80q rs80q (fun d => giroref15_May k d.1 d.2.1 d.2.2.1 d.2.2.2.1 d.2.2.2.2.1 d.2.2.2.2.2.1 d.2.2.2.2.2.2.1 d.2.2.2.2.2.2.2.1 d.2.2.2.2.2.2.2.2.1 d.2.2.2.2.2.2.2.2.2.1 d.2.2.2.2.2.2.2.2.2.2.1) pk80q nm args h)
theorem ev80q (k : Nat) (d : AD as80q) : evF E80q A80q k 1000 0 Proofs.Try.f60 (absArgs as80q d).1 (absArgs as80q d).2 (outM rs80q up80q) = giroref15_May k d.1 d.2.1 d.2.2.1 d.2.2.2.1 d.2.2.2.2.1 d.2.2.2.2.2.1 d.2.2.2.2.2.2.1 d.2.2.2.2.2.2.2.1 d.2.2.2.2.2.2.2.2.1 d.2.2.2.2.2.2.2.2.2.1 d.2.2.2.2.2.2.2.2.2.2.1 := by
  obtain ⟨_, _, _, _, _, _, _, _, _, _, _, _⟩ := d
  kernel_rfl
theorem Ro80q : EntryOK Proofs.Try.prog R80q := fun k _ _ _ _ _ hy =>
  entry_sound (unpack := up80q) (A := A80q) (k := k) (pre := 1000) (na := 0) (E := E80q) Eo80q El80q mixed_orders (f := 60) (fn := Proofs.Try.f60) (by kernel_rfl) (body_loops (loopsOK_none (by kernel_rfl))) (enters (fn := Proofs.Try.f60) (by kernel_rfl) (by kernel_rfl) (by kernel_rfl)) (fun _ => rfl) (ev80q k) hy
theorem Rl80q : EntryLocal R80q.2 := entry_local (S := fun k (d : AD as80q) => giroref15_May k d.1 d.2.1 d.2.2.1 d.2.2.2.1 d.2.2.2.2.1 d.2.2.2.2.2.1 d.2.2.2.2.2.2.1 d.2.2.2.2.2.2.2.1 d.2.2.2.2.2.2.2.2.1 d.2.2.2.2.2.2.2.2.2.1 d.2.2.2.2.2.2.2.2.2.2.1)

/-! ### giro/giroref15.All -/
noncomputable def E81q : Env := ⟨Proofs.Try.prog, fun _ => false, sumsOf [R80q]⟩
def I81_0q : Spec := ⟨[(1, .c (.dat false y7q)), (2, .c (.lit (.ptr 1001000 0))), (5, .c (.int .i64))], [.box true [.dat false y3q, .dat false (.sl (.int .i64)), .dat false (.int .i64), .dat false (.sl (.int .i64))]], []⟩
def X0_81_0q : Spec := ⟨[(1, .c (.dat false y7q))], [], []⟩
def X1_81_0q : Spec := ⟨[(4, .c (.bool))], [], []⟩
def O81_0q : List (Ex × Spec) := [(.exit 0, X0_81_0q), (.ret, X1_81_0q)]
abbrev Z81_0q : Type := (List K1q) ⊕ Bool
def c81_0q (f : List K1q → Int → List K2q → List (List Int) → List Int → List (List Int) → Option Z81_0q) (d : I81_0q.den) : Option Z81_0q := f d.1.1.1 d.1.2.2.1.1 d.2.1.1 d.2.1.2.1 d.2.1.2.2.1 d.2.1.2.2.2.1
def T81_0q : OutD O81_0q → Z81_0q
 | .inl d => .inl d.1.1.1
 | .inr d => .inr d.1.1.1
def e81_0q (base : Nat) (x : Z81_0q) (R : Type) (K : Ex → St → Option R) : Option R := match x with
 | .inl x => K (.exit 0) (stOf base X0_81_0q (((x, ()), ()), ()))
 | .inr x => K .ret (stOf base X1_81_0q (((x, ()), ()), ()))
def L81_0q : LoopSum := ⟨I81_0q, O81_0q, Z81_0q, fun k d => c81_0q (giroref15_All_L0 k k) d, e81_0q⟩
def A81q : Notes := ⟨[], [(2, L81_0q)]⟩
theorem Eo81q : EnvOK E81q := ⟨eqOK_none, sumsOf_ok (List.forall_mem_cons.2 ⟨Ro80q, List.forall_mem_nil _⟩)⟩
theorem El81q : SumsLocal E81q.sums := sumsOf_local (List.forall_mem_cons.2 ⟨Rl80q, List.forall_mem_nil _⟩)
theorem st81_0q (k : Nat) (rec : List K1q → Int → List K2q → List (List Int) → List Int → List (List Int) → Option Z81_0q) (d : I81_0q.den) : c81_0q (giroref15_All_L0b k rec) d = evC E81q A81q k 1000 0 22 (loopAt (bodyOf Proofs.Try.f23) 0) (stOf (1000 + loopBase) I81_0q d) (roundK 1000 I81_0q O81_0q T81_0q (c81_0q rec)) := by
  obtain ⟨⟨⟨_, _⟩, _, ⟨_, _⟩, _⟩, ⟨⟨_, _, _, _, _⟩, _⟩⟩ := d
  kernel_rfl
theorem lk81_0q : LoopOK Proofs.Try.prog 1000 0 22 (loopAt (bodyOf Proofs.Try.f23) 0) L81_0q :=
  loop_sound (A := A81q) (inS := I81_0q) (outs := O81_0q) Eo81q El81q mixed_orders (loopsOK_none (by kernel_rfl)) T81_0q e81_0q (by intro o R K; rcases o with o | o <;> rfl) (fun k n d => c81_0q (giroref15_All_L0 k n) d) (fun _ _ => rfl) (fun k n d => st81_0q k (giroref15_All_L0 k n) d)
def as81q : List AS := [.agg [.dat false y3q, .dat false (.sl (.int .i64)), .dat false (.int .i64), .dat false (.sl (.int .i64))], .c (.dat false y7q)]
def rs81q : RS := .c (.bool)
def pk81q : Bool → RL rs81q.cells := fun x => (x, ())
def up81q : RL rs81q.cells → Bool := fun d => d.1
def R81q : Nat × Entry := (23, fun k nm args h => entry as81q rs81q (fun d => giroref15_All k d.1 d.2.1 d.2.2.1 d.2.2.2.1 d.2.2.2.2.1) pk81q nm args h)
theorem ev81q (k : Nat) (d : AD as81q) : evF E81q A81q k 1000 0 Proofs.Try.f23 (absArgs as81q d).1 (absArgs as81q d).2 (outM rs81q up81q) = giroref15_All k d.1 d.2.1 d.2.2.1 d.2.2.2.1 d.2.2.2.2.1 := by
  obtain ⟨_, _, _, _, _, _⟩ := d
  kernel_rfl
theorem Ro81q : EntryOK Proofs.Try.prog R81q := fun k _ _ _ _ _ hy =>
  entry_sound (unpack := up81q) (A := A81q) (k := k) (pre := 1000) (na := 0) (E := E81q) Eo81q El81q mixed_orders (f := 23) (fn := Proofs.Try.f23) (by kernel_rfl) (body_loops (loopsOK_of (n := 1) (by kernel_rfl) fun i hi => match i, hi with | 0, _ => ⟨L81_0q, by kernel_rfl, lk81_0q⟩ | i + 1, hi => absurd hi (by omega))) (enters (fn := Proofs.Try.f23) (by kernel_rfl) (by kernel_rfl) (by kernel_rfl)) (fun _ => rfl) (ev81q k) hy
theorem Rl81q : EntryLocal R81q.2 := entry_local (S := fun k (d : AD as81q) => giroref15_All k d.1 d.2.1 d.2.2.1 d.2.2.2.1 d.2.2.2.2.1)

/-! ### giro/giroref10.rows -/
noncomputable def E82q : Env := ⟨Proofs.Try.prog, fun _ => false, sumsOf []⟩
def I82_0q : Spec := ⟨[(0, .c (.dat false (.sl (.int .i64)))), (3, .c (.lit (.osl 1001000 none))), (4, .c (.int .i64))], [.mat], [(3, none, (.sl (.int .i64)), true)]⟩
def X0_82_0q : Spec := ⟨[(3, .c (.lit (.osl 1001000 none)))], [.mat], []⟩
def O82_0q : List (Ex × Spec) := [(.exit 0, X0_82_0q)]
abbrev Z82_0q : Type := List (List Int)
def c82_0q (f : List (List Int) → Int → List (List Int) → Option Z82_0q) (d : I82_0q.den) : Option Z82_0q := f d.1.1.1 d.1.2.2.1.1 d.2.1
def T82_0q : OutD O82_0q → Z82_0q := fun d => d.2.1
def e82_0q (base : Nat) (x : Z82_0q) (R : Type) (K : Ex → St → Option R) : Option R := K (.exit 0) (stOf base X0_82_0q (((), ()), (x, ())))
def L82_0q : LoopSum := ⟨I82_0q, O82_0q, Z82_0q, fun k d => c82_0q (giroref10_rows_L0 k k) d, e82_0q⟩
def A82q : Notes := ⟨[18, 19], [(3, L82_0q)]⟩
theorem Eo82q : EnvOK E82q := ⟨eqOK_none, sumsOf_ok (List.forall_mem_nil _)⟩
theorem El82q : SumsLocal E82q.sums := sumsOf_local (List.forall_mem_nil _)
theorem st82_0q (k : Nat) (rec : List (List Int) → Int → List (List Int) → Option Z82_0q) (d : I82_0q.den) : c82_0q (giroref10_rows_L0b k rec) d = evC E82q A82q k 1000 0 21 (loopAt (bodyOf Proofs.Try.f102) 0) (stOf (1000 + loopBase) I82_0q d) (roundK 1000 I82_0q O82_0q T82_0q (c82_0q rec)) := by
  obtain ⟨⟨⟨_, _⟩, _, ⟨_, _⟩, _⟩, ⟨_, _⟩⟩ := d
  kernel_rfl
theorem lk82_0q : LoopOK Proofs.Try.prog 1000 0 21 (loopAt (bodyOf Proofs.Try.f102) 0) L82_0q :=
  loop_sound (A := A82q) (inS := I82_0q) (outs := O82_0q) Eo82q El82q mixed_orders (loopsOK_none (by kernel_rfl)) T82_0q e82_0q (fun _ _ _ => rfl) (fun k n d => c82_0q (giroref10_rows_L0 k n) d) (fun _ _ => rfl) (fun k n d => st82_0q k (giroref10_rows_L0 k n) d)
def as82q : List AS := [.c (.dat false (.sl (.int .i64)))]
def rs82q : RS := .c (.mat)
def pk82q : List (List Int) → RL rs82q.cells := fun x => (x, ())
def up82q : RL rs82q.cells → List (List Int) := fun d => d.1
def R82q : Nat × Entry := (102, fun k nm args h => entry as82q rs82q (fun d => giroref10_rows k d.1) pk82q nm args h)
theorem ev82q (k : Nat) (d : AD as82q) : evF E82q A82q k 1000 0 Proofs.Try.f102 (absArgs as82q d).1 (absArgs as82q d).2 (outM rs82q up82q) = giroref10_rows k d.1 := by
  obtain ⟨_, _⟩ := d
  kernel_rfl
theorem Ro82q : EntryOK Proofs.Try.prog R82q := fun k _ _ _ _ _ hy =>
  entry_sound (unpack := up82q) (A := A82q) (k := k) (pre := 1000) (na := 0) (E := E82q) Eo82q El82q mixed_orders (f := 102) (fn := Proofs.Try.f102) (by kernel_rfl) (body_loops (loopsOK_of (n := 1) (by kernel_rfl) fun i hi => match i, hi with | 0, _ => ⟨L82_0q, by kernel_rfl, lk82_0q⟩ | i + 1, hi => absurd hi (by omega))) (enters (fn := Proofs.Try.f102) (by kernel_rfl) (by kernel_rfl) (by kernel_rfl)) (fun _ => rfl) (ev82q k) hy
theorem Rl82q : EntryLocal R82q.2 := entry_local (S := fun k (d : AD as82q) => giroref10_rows k d.1)

/-! ### giro/giroref10.Copy -/
noncomputable def E83q : Env := ⟨Proofs.Try.prog, fun _ => false, sumsOf [R82q]⟩
def A83q : Notes := ⟨[], []⟩
theorem Eo83q : EnvOK E83q := ⟨eqOK_none, sumsOf_ok (List.forall_mem_cons.2 ⟨Ro82q, List.forall_mem_nil _⟩)⟩
theorem El83q : SumsLocal E83q.sums := sumsOf_local (List.forall_mem_cons.2 ⟨Rl82q, List.forall_mem_nil _⟩)
def as83q : List AS := [.agg [.dat false y3q, .dat false (.sl (.int .i64)), .dat false (.int .i64), .dat false (.sl (.int .i64))]]
def rs83q : RS := .agg [.own y3q, .mat, .own (.int .i64), .mat]
def pk83q : (List K2q) × (List (List Int)) × (List Int) × (List (List Int)) → RL rs83q.cells := fun x => (x.1, x.2.1, x.2.2.1, x.2.2.2, ())
def up83q : RL rs83q.cells → (List K2q) × (List (List Int)) × (List Int) × (List (List Int)) := fun d => (d.1, d.2.1, d.2.2.1, d.2.2.2.1)
def R83q : Nat × Entry := (62, fun k nm args h => entry as83q rs83q (fun d => giroref10_Copy k d.1 d.2.1 d.2.2.1 d.2.2.2.1) pk83q nm args h)
theorem ev83q (k : Nat) (d : AD as83q) : evF E83q A83q k 1000 0 Proofs.Try.f62 (absArgs as83q d).1 (absArgs as83q d).2 (outM rs83q up83q) = giroref10_Copy k d.1 d.2.1 d.2.2.1 d.2.2.2.1 := by
  obtain ⟨_, _, _, _, _⟩ := d
  kernel_rfl
theorem Ro83q : EntryOK Proofs.Try.prog R83q := fun k _ _ _ _ _ hy =>
  entry_sound (unpack := up83q) (A := A83q) (k := k) (pre := 1000) (na := 0) (E := E83q) Eo83q El83q mixed_orders (f := 62) (fn := Proofs.Try.f62) (by kernel_rfl) (body_loops (loopsOK_none (by kernel_rfl))) (enters (fn := Proofs.Try.f62) (by kernel_rfl) (by kernel_rfl) (by kernel_rfl)) (fun _ => rfl) (ev83q k) hy
theorem Rl83q : EntryLocal R83q.2 := entry_local (S := fun k (d : AD as83q) => giroref10_Copy k d.1 d.2.1 d.2.2.1 d.2.2.2.1)

/-! ### giro/giroref15.Spent -/
noncomputable def E84q : Env := ⟨Proofs.Try.prog, fun _ => false, sumsOf [R38q]⟩
def A84q : Notes := ⟨[], []⟩
theorem Eo84q : EnvOK E84q := ⟨eqOK_none, sumsOf_ok (List.forall_mem_cons.2 ⟨Ro38q, List.forall_mem_nil _⟩)⟩
theorem El84q : SumsLocal E84q.sums := sumsOf_local (List.forall_mem_cons.2 ⟨Rl38q, List.forall_mem_nil _⟩)
def as84q : List AS := [.c (.dat false y7q), .c (.int .i64)]
def rs84q : RS := .c (.int .i64)
def pk84q : Int → RL rs84q.cells := fun x => (x, ())
def up84q : RL rs84q.cells → Int := fun d => d.1
def R84q : Nat × Entry := (64, fun k nm args h => entry as84q rs84q (fun d => giroref15_Spent k d.1 d.2.1) pk84q nm args h)
theorem ev84q (k : Nat) (d : AD as84q) : evF E84q A84q k 1000 0 Proofs.Try.f64 (absArgs as84q d).1 (absArgs as84q d).2 (outM rs84q up84q) = giroref15_Spent k d.1 d.2.1 := by
  obtain ⟨_, _, _⟩ := d
  kernel_rfl
theorem Ro84q : EntryOK Proofs.Try.prog R84q := fun k _ _ _ _ _ hy =>
  entry_sound (unpack := up84q) (A := A84q) (k := k) (pre := 1000) (na := 0) (E := E84q) Eo84q El84q mixed_orders (f := 64) (fn := Proofs.Try.f64) (by kernel_rfl) (body_loops (loopsOK_none (by kernel_rfl))) (enters (fn := Proofs.Try.f64) (by kernel_rfl) (by kernel_rfl) (by kernel_rfl)) (fun _ => rfl) (ev84q k) hy
theorem Rl84q : EntryLocal R84q.2 := entry_local (S := fun k (d : AD as84q) => giroref15_Spent k d.1 d.2.1)

/-! ### giro/giroref15.Sent -/
noncomputable def E85q : Env := ⟨Proofs.Try.prog, fun _ => false, sumsOf [R40q]⟩
def A85q : Notes := ⟨[], []⟩
theorem Eo85q : EnvOK E85q := ⟨eqOK_none, sumsOf_ok (List.forall_mem_cons.2 ⟨Ro40q, List.forall_mem_nil _⟩)⟩
theorem El85q : SumsLocal E85q.sums := sumsOf_local (List.forall_mem_cons.2 ⟨Rl40q, List.forall_mem_nil _⟩)
def as85q : List AS := [.c (.dat false y7q), .c (.int .i64), .c (.int .i64)]
def rs85q : RS := .c (.int .i64)
def pk85q : Int → RL rs85q.cells := fun x => (x, ())
def up85q : RL rs85q.cells → Int := fun d => d.1
def R85q : Nat × Entry := (65, fun k nm args h => entry as85q rs85q (fun d => giroref15_Sent k d.1 d.2.1 d.2.2.1) pk85q nm args h)
theorem ev85q (k : Nat) (d : AD as85q) : evF E85q A85q k 1000 0 Proofs.Try.f65 (absArgs as85q d).1 (absArgs as85q d).2 (outM rs85q up85q) = giroref15_Sent k d.1 d.2.1 d.2.2.1 := by
  obtain ⟨_, _, _, _⟩ := d
  kernel_rfl
theorem Ro85q : EntryOK Proofs.Try.prog R85q := fun k _ _ _ _ _ hy =>
  entry_sound (unpack := up85q) (A := A85q) (k := k) (pre := 1000) (na := 0) (E := E85q) Eo85q El85q mixed_orders (f := 65) (fn := Proofs.Try.f65) (by kernel_rfl) (body_loops (loopsOK_none (by kernel_rfl))) (enters (fn := Proofs.Try.f65) (by kernel_rfl) (by kernel_rfl) (by kernel_rfl)) (fun _ => rfl) (ev85q k) hy
theorem Rl85q : EntryLocal R85q.2 := entry_local (S := fun k (d : AD as85q) => giroref15_Sent k d.1 d.2.1 d.2.2.1)

/-! ### giro/giroref10.square -/
noncomputable def E86q : Env := ⟨Proofs.Try.prog, fun _ => false, sumsOf []⟩
def I86_0q : Spec := ⟨[(0, .c (.dat false (.sl (.int .i64)))), (1, .c (.int .i64)), (5, .c (.int .i64))], [], []⟩
def X0_86_0q : Spec := ⟨[], [], []⟩
def X1_86_0q : Spec := ⟨[(4, .c (.bool))], [], []⟩
def O86_0q : List (Ex × Spec) := [(.exit 0, X0_86_0q), (.ret, X1_86_0q)]
abbrev Z86_0q : Type := Unit ⊕ Bool
def c86_0q (f : List (List Int) → Int → Int → Option Z86_0q) (d : I86_0q.den) : Option Z86_0q := f d.1.1.1 d.1.2.1.1 d.1.2.2.1.1
def T86_0q : OutD O86_0q → Z86_0q
 | .inl d => .inl ()
 | .inr d => .inr d.1.1.1
def e86_0q (base : Nat) (x : Z86_0q) (R : Type) (K : Ex → St → Option R) : Option R := match x with
 | .inl x => K (.exit 0) (stOf base X0_86_0q ((), ()))
 | .inr x => K .ret (stOf base X1_86_0q (((x, ()), ()), ()))
def L86_0q : LoopSum := ⟨I86_0q, O86_0q, Z86_0q, fun k d => c86_0q (giroref10_square_L0 k k) d, e86_0q⟩
def A86q : Notes := ⟨[], [(4, L86_0q)]⟩
theorem Eo86q : EnvOK E86q := ⟨eqOK_none, sumsOf_ok (List.forall_mem_nil _)⟩
theorem El86q : SumsLocal E86q.sums := sumsOf_local (List.forall_mem_nil _)
theorem st86_0q (k : Nat) (rec : List (List Int) → Int → Int → Option Z86_0q) (d : I86_0q.den) : c86_0q (giroref10_square_L0b k rec) d = evC E86q A86q k 1000 0 22 (loopAt (bodyOf Proofs.Try.f56) 0) (stOf (1000 + loopBase) I86_0q d) (roundK 1000 I86_0q O86_0q T86_0q (c86_0q rec)) := by
  obtain ⟨⟨⟨_, _⟩, ⟨_, _⟩, ⟨_, _⟩, _⟩, _⟩ := d
  kernel_rfl
theorem lk86_0q : LoopOK Proofs.Try.prog 1000 0 22 (loopAt (bodyOf Proofs.Try.f56) 0) L86_0q :=
  loop_sound (A := A86q) (inS := I86_0q) (outs := O86_0q) Eo86q El86q mixed_orders (loopsOK_none (by kernel_rfl)) T86_0q e86_0q (by intro o R K; rcases o with o | o <;> rfl) (fun k n d => c86_0q (giroref10_square_L0 k n) d) (fun _ _ => rfl) (fun k n d => st86_0q k (giroref10_square_L0 k n) d)
def as86q : List AS := [.c (.dat false (.sl (.int .i64))), .c (.int .i64)]
def rs86q : RS := .c (.bool)
def pk86q : Bool → RL rs86q.cells := fun x => (x, ())
def up86q : RL rs86q.cells → Bool := fun d => d.1
def R86q : Nat × Entry := (56, fun k nm args h => entry as86q rs86q (fun d => giroref10_square k d.1 d.2.1) pk86q nm args h)
theorem ev86q (k : Nat) (d : AD as86q) : evF E86q A86q k 1000 0 Proofs.Try.f56 (absArgs as86q d).1 (absArgs as86q d).2 (outM rs86q up86q) = giroref10_square k d.1 d.2.1 := by
  obtain ⟨_, _, _⟩ := d
  kernel_rfl
theorem Ro86q : EntryOK Proofs.Try.prog R86q := fun k _ _ _ _ _ hy =>
  entry_sound (unpack := up86q) (A := A86q) (k := k) (pre := 1000) (na := 0) (E := E86q) Eo86q El86q mixed_orders (f := 56) (fn := Proofs.Try.f56) (by kernel_rfl) (body_loops (loopsOK_of (n := 1) (by kernel_rfl) fun i hi => match i, hi with | 0, _ => ⟨L86_0q, by kernel_rfl, lk86_0q⟩ | i + 1, hi => absurd hi (by omega))) (enters (fn := Proofs.Try.f56) (by kernel_rfl) (by kernel_rfl) (by kernel_rfl)) (fun _ => rfl) (ev86q k) hy
theorem Rl86q : EntryLocal R86q.2 := entry_local (S := fun k (d : AD as86q) => giroref10_square k d.1 d.2.1)

/-! ### giro/giroref9.Is -/
noncomputable def E87q : Env := ⟨Proofs.Try.prog, fun _ => false, sumsOf []⟩
def A87q : Notes := ⟨[], []⟩
theorem Eo87q : EnvOK E87q := ⟨eqOK_none, sumsOf_ok (List.forall_mem_nil _)⟩
theorem El87q : SumsLocal E87q.sums := sumsOf_local (List.forall_mem_nil _)
def as87q : List AS := [.agg [.int .i64, .int .i64, .int .i64]]
def rs87q : RS := .c (.bool)
def pk87q : Bool → RL rs87q.cells := fun x => (x, ())
def up87q : RL rs87q.cells → Bool := fun d => d.1
def R87q : Nat × Entry := (57, fun k nm args h => entry as87q rs87q (fun d => giroref9_Is k d.1 d.2.1 d.2.2.1) pk87q nm args h)
theorem ev87q (k : Nat) (d : AD as87q) : evF E87q A87q k 1000 0 Proofs.Try.f57 (absArgs as87q d).1 (absArgs as87q d).2 (outM rs87q up87q) = giroref9_Is k d.1 d.2.1 d.2.2.1 := by
  obtain ⟨_, _, _, _⟩ := d
  kernel_rfl
theorem Ro87q : EntryOK Proofs.Try.prog R87q := fun k _ _ _ _ _ hy =>
  entry_sound (unpack := up87q) (A := A87q) (k := k) (pre := 1000) (na := 0) (E := E87q) Eo87q El87q mixed_orders (f := 57) (fn := Proofs.Try.f57) (by kernel_rfl) (body_loops (loopsOK_none (by kernel_rfl))) (enters (fn := Proofs.Try.f57) (by kernel_rfl) (by kernel_rfl) (by kernel_rfl)) (fun _ => rfl) (ev87q k) hy
theorem Rl87q : EntryLocal R87q.2 := entry_local (S := fun k (d : AD as87q) => giroref9_Is k d.1 d.2.1 d.2.2.1)

/-! ### giro/giroref10.limit -/
noncomputable def E88q : Env := ⟨Proofs.Try.prog, fun _ => false, sumsOf []⟩
def A88q : Notes := ⟨[], []⟩
theorem Eo88q : EnvOK E88q := ⟨eqOK_none, sumsOf_ok (List.forall_mem_nil _)⟩
theorem El88q : SumsLocal E88q.sums := sumsOf_local (List.forall_mem_nil _)
def as88q : List AS := [.c (.int .i64)]
def rs88q : RS := .c (.bool)
def pk88q : Bool → RL rs88q.cells := fun x => (x, ())
def up88q : RL rs88q.cells → Bool := fun d => d.1
def R88q : Nat × Entry := (58, fun k nm args h => entry as88q rs88q (fun d => giroref10_limit k d.1) pk88q nm args h)
theorem ev88q (k : Nat) (d : AD as88q) : evF E88q A88q k 1000 0 Proofs.Try.f58 (absArgs as88q d).1 (absArgs as88q d).2 (outM rs88q up88q) = giroref10_limit k d.1 := by
  obtain ⟨_, _⟩ := d
  kernel_rfl
theorem Ro88q : EntryOK Proofs.Try.prog R88q := fun k _ _ _ _ _ hy =>
  entry_sound (unpack := up88q) (A := A88q) (k := k) (pre := 1000) (na := 0) (E := E88q) Eo88q El88q mixed_orders (f := 58) (fn := Proofs.Try.f58) (by kernel_rfl) (body_loops (loopsOK_none (by kernel_rfl))) (enters (fn := Proofs.Try.f58) (by kernel_rfl) (by kernel_rfl) (by kernel_rfl)) (fun _ => rfl) (ev88q k) hy
theorem Rl88q : EntryLocal R88q.2 := entry_local (S := fun k (d : AD as88q) => giroref10_limit k d.1)

/-! ### giro/giroref10.Is -/
noncomputable def E89q : Env := ⟨Proofs.Try.prog, fun _ => false, sumsOf [R86q, R87q, R88q]⟩
def I89_0q : Spec := ⟨[(1, .c (.lit (.ptr 1001000 0))), (3, .c (.int .i64)), (4, .c (.int .i64)), (5, .c (.int .i64))], [.box true [.dat false y3q, .dat false (.sl (.int .i64)), .dat false (.int .i64), .dat false (.sl (.int .i64))]], []⟩
def X0_89_0q : Spec := ⟨[(1, .c (.lit (.ptr 1001000 0))), (3, .c (.int .i64)), (4, .c (.int .i64))], [.box true [.dat false y3q, .dat false (.sl (.int .i64)), .dat false (.int .i64), .dat false (.sl (.int .i64))]], []⟩
def X1_89_0q : Spec := ⟨[(2, .c (.bool))], [], []⟩
def O89_0q : List (Ex × Spec) := [(.exit 2, X0_89_0q), (.ret, X1_89_0q)]
abbrev Z89_0q : Type := (Int × Int × (List K2q) × (List (List Int)) × (List Int) × (List (List Int))) ⊕ Bool
def c89_0q (f : Int → Int → Int → List K2q → List (List Int) → List Int → List (List Int) → Option Z89_0q) (d : I89_0q.den) : Option Z89_0q := f d.1.2.1.1 d.1.2.2.1.1 d.1.2.2.2.1.1 d.2.1.1 d.2.1.2.1 d.2.1.2.2.1 d.2.1.2.2.2.1
def T89_0q : OutD O89_0q → Z89_0q
 | .inl d => .inl (d.1.2.1.1, d.1.2.2.1.1, d.2.1.1, d.2.1.2.1, d.2.1.2.2.1, d.2.1.2.2.2.1)
 | .inr d => .inr d.1.1.1
def e89_0q (base : Nat) (x : Z89_0q) (R : Type) (K : Ex → St → Option R) : Option R := match x with
 | .inl x => K (.exit 2) (stOf base X0_89_0q (((), (x.1, ()), (x.2.1, ()), ()), ((x.2.2.1, x.2.2.2.1, x.2.2.2.2.1, x.2.2.2.2.2, ()), ())))
 | .inr x => K .ret (stOf base X1_89_0q (((x, ()), ()), ()))
def L89_0q : LoopSum := ⟨I89_0q, O89_0q, Z89_0q, fun k d => c89_0q (giroref10_Is_L1 k k) d, e89_0q⟩
def I89_1q : Spec := ⟨[(1, .c (.lit (.ptr 1001000 0))), (3, .c (.int .i64)), (4, .c (.int .i64))], [.box true [.dat false y3q, .dat false (.sl (.int .i64)), .dat false (.int .i64), .dat false (.sl (.int .i64))]], []⟩
def X0_89_1q : Spec := ⟨[], [], []⟩
def X1_89_1q : Spec := ⟨[(2, .c (.bool))], [], []⟩
def O89_1q : List (Ex × Spec) := [(.exit 0, X0_89_1q), (.ret, X1_89_1q)]
abbrev Z89_1q : Type := Unit ⊕ Bool
def c89_1q (f : Int → Int → List K2q → List (List Int) → List Int → List (List Int) → Option Z89_1q) (d : I89_1q.den) : Option Z89_1q := f d.1.2.1.1 d.1.2.2.1.1 d.2.1.1 d.2.1.2.1 d.2.1.2.2.1 d.2.1.2.2.2.1
def T89_1q : OutD O89_1q → Z89_1q
 | .inl d => .inl ()
 | .inr d => .inr d.1.1.1
def e89_1q (base : Nat) (x : Z89_1q) (R : Type) (K : Ex → St → Option R) : Option R := match x with
 | .inl x => K (.exit 0) (stOf base X0_89_1q ((), ()))
 | .inr x => K .ret (stOf base X1_89_1q (((x, ()), ()), ()))
def L89_1q : LoopSum := ⟨I89_1q, O89_1q, Z89_1q, fun k d => c89_1q (giroref10_Is_L0 k k) d, e89_1q⟩
def A89q : Notes := ⟨[], [(10, L89_0q), (5, L89_1q)]⟩
theorem Eo89q : EnvOK E89q := ⟨eqOK_none, sumsOf_ok (List.forall_mem_cons.2 ⟨Ro86q, List.forall_mem_cons.2 ⟨Ro87q, List.forall_mem_cons.2 ⟨Ro88q, List.forall_mem_nil _⟩⟩⟩)⟩
theorem El89q : SumsLocal E89q.sums := sumsOf_local (List.forall_mem_cons.2 ⟨Rl86q, List.forall_mem_cons.2 ⟨Rl87q, List.forall_mem_cons.2 ⟨Rl88q, List.forall_mem_nil _⟩⟩⟩)
theorem st89_0q (k : Nat) (rec : Int → Int → Int → List K2q → List (List Int) → List Int → List (List Int) → Option Z89_0q) (d : I89_0q.den) : c89_0q (giroref10_Is_L1b k rec) d = evC E89q A89q k 1000 0 114 (loopAt (loopAt (bodyOf Proofs.Try.f21) 0) 0) (stOf (1000 + loopBase) I89_0q d) (roundK 1000 I89_0q O89_0q T89_0q (c89_0q rec)) := by
  obtain ⟨⟨_, ⟨_, _⟩, ⟨_, _⟩, ⟨_, _⟩, _⟩, ⟨⟨_, _, _, _, _⟩, _⟩⟩ := d
  kernel_rfl
theorem lk89_0q : LoopOK Proofs.Try.prog 1000 0 114 (loopAt (loopAt (bodyOf Proofs.Try.f21) 0) 0) L89_0q :=
  loop_sound (A := A89q) (inS := I89_0q) (outs := O89_0q) Eo89q El89q mixed_orders (loopsOK_none (by kernel_rfl)) T89_0q e89_0q (by intro o R K; rcases o with o | o <;> rfl) (fun k n d => c89_0q (giroref10_Is_L1 k n) d) (fun _ _ => rfl) (fun k n d => st89_0q k (giroref10_Is_L1 k n) d)
theorem st89_1q (k : Nat) (rec : Int → Int → List K2q → List (List Int) → List Int → List (List Int) → Option Z89_1q) (d : I89_1q.den) : c89_1q (giroref10_Is_L0b k rec) d = evC E89q A89q k 1000 0 114 (loopAt (bodyOf Proofs.Try.f21) 0) (stOf (1000 + loopBase) I89_1q d) (roundK 1000 I89_1q O89_1q T89_1q (c89_1q rec)) := by
  obtain ⟨⟨_, ⟨_, _⟩, ⟨_, _⟩, _⟩, ⟨⟨_, _, _, _, _⟩, _⟩⟩ := d
  kernel_rfl
theorem lk89_1q : LoopOK Proofs.Try.prog 1000 0 114 (loopAt (bodyOf Proofs.Try.f21) 0) L89_1q :=
  loop_sound (A := A89q) (inS := I89_1q) (outs := O89_1q) Eo89q El89q mixed_orders (loopsOK_of (n := 1) (by kernel_rfl) fun i hi => match i, hi with | 0, _ => ⟨L89_0q, by kernel_rfl, lk89_0q⟩ | i + 1, hi => absurd hi (by omega)) T89_1q e89_1q (by intro o R K; rcases o with o | o <;> rfl) (fun k n d => c89_1q (giroref10_Is_L0 k n) d) (fun _ _ => rfl) (fun k n d => st89_1q k (giroref10_Is_L0 k n) d)
def as89q : List AS := [.agg [.dat false y3q, .dat false (.sl (.int .i64)), .dat false (.int .i64), .dat false (.sl (.int .i64))]]
def rs89q : RS := .c (.bool)
def pk89q : Bool → RL rs89q.cells := fun x => (x, ())
def up89q : RL rs89q.cells → Bool := fun d => d.1
def R89q : Nat × Entry := (21, fun k nm args h => entry as89q rs89q (fun d => giroref10_Is k d.1 d.2.1 d.2.2.1 d.2.2.2.1) pk89q nm args h)
theorem ev89q (k : Nat) (d : AD as89q) : evF E89q A89q k 1000 0 Proofs.Try.f21 (absArgs as89q d).1 (absArgs as89q d).2 (outM rs89q up89q) = giroref10_Is k d.1 d.2.1 d.2.2.1 d.2.2.2.1 := by
  obtain ⟨_, _, _, _, _⟩ := d
  kernel_rfl
theorem Ro89q : EntryOK Proofs.Try.prog R89q := fun k _ _ _ _ _ hy =>
  entry_sound (unpack := up89q) (A := A89q) (k := k) (pre := 1000) (na := 0) (E := E89q) Eo89q El89q mixed_orders (f := 21) (fn := Proofs.Try.f21) (by kernel_rfl) (body_loops (loopsOK_of (n := 1) (by kernel_rfl) fun i hi => match i, hi with | 0, _ => ⟨L89_1q, by kernel_rfl, lk89_1q⟩ | i + 1, hi => absurd hi (by omega))) (enters (fn := Proofs.Try.f21) (by kernel_rfl) (by kernel_rfl) (by kernel_rfl)) (fun _ => rfl) (ev89q k) hy
theorem Rl89q : EntryLocal R89q.2 := entry_local (S := fun k (d : AD as89q) => giroref10_Is k d.1 d.2.1 d.2.2.1 d.2.2.2.1)

/-! ### giro/giroref16.Post -/
noncomputable def E90q : Env := ⟨Proofs.Try.prog, fun _ => false, sumsOf [R81q, R83q, R84q, R41q, R85q, R89q]⟩
def I90_0q : Spec := ⟨[(1, .c (.dat false y7q)), (2, .c (.lit (.ptr 1001000 0))), (4, .c (.lit (.ptr 1001001 0))), (6, .c (.lit (.ptr 1001002 0))), (7, .c (.int .i64)), (8, .c (.int .i64))], [.box true [.dat true y3q, .dat true (.sl (.int .i64)), .dat true (.int .i64), .dat true (.sl (.int .i64))], .box true [.lit .nsl, .lit .nsl, .lit .nsl, .lit .nsl], .box true [.lit (.osl 1001003 none), .lit (.osl 1001004 none), .lit (.osl 1001005 none), .lit (.osl 1001006 none)], .arr true y3q, .mat, .arr true (.int .i64), .mat], []⟩
def X0_90_0q : Spec := ⟨[(1, .c (.dat false y7q)), (2, .c (.lit (.ptr 1001000 0))), (4, .c (.lit (.ptr 1001001 0))), (6, .c (.lit (.ptr 1001002 0))), (7, .c (.int .i64))], [.box true [.dat true y3q, .dat true (.sl (.int .i64)), .dat true (.int .i64), .dat true (.sl (.int .i64))], .box true [.lit .nsl, .lit .nsl, .lit .nsl, .lit .nsl], .box true [.lit (.osl 1001003 none), .lit (.osl 1001004 none), .lit (.osl 1001005 none), .lit (.osl 1001006 none)], .arr true y3q, .mat, .arr true (.int .i64), .mat], []⟩
def O90_0q : List (Ex × Spec) := [(.exit 2, X0_90_0q)]
abbrev Z90_0q : Type := (List K1q) × Int × (List K2q) × (List (List Int)) × (List Int) × (List (List Int)) × (List K2q) × (List (List Int)) × (List Int) × (List (List Int))
def c90_0q (f : List K1q → Int → Int → List K2q → List (List Int) → List Int → List (List Int) → List K2q → List (List Int) → List Int → List (List Int) → Option Z90_0q) (d : I90_0q.den) : Option Z90_0q := f d.1.1.1 d.1.2.2.2.2.1.1 d.1.2.2.2.2.2.1.1 d.2.1.1 d.2.1.2.1 d.2.1.2.2.1 d.2.1.2.2.2.1 d.2.2.2.2.1 d.2.2.2.2.2.1 d.2.2.2.2.2.2.1 d.2.2.2.2.2.2.2.1
def T90_0q : OutD O90_0q → Z90_0q := fun d => (d.1.1.1, d.1.2.2.2.2.1.1, d.2.1.1, d.2.1.2.1, d.2.1.2.2.1, d.2.1.2.2.2.1, d.2.2.2.2.1, d.2.2.2.2.2.1, d.2.2.2.2.2.2.1, d.2.2.2.2.2.2.2.1)
def e90_0q (base : Nat) (x : Z90_0q) (R : Type) (K : Ex → St → Option R) : Option R := K (.exit 2) (stOf base X0_90_0q (((x.1, ()), (), (), (), (x.2.1, ()), ()), ((x.2.2.1, x.2.2.2.1, x.2.2.2.2.1, x.2.2.2.2.2.1, ()), (), (), x.2.2.2.2.2.2.1, x.2.2.2.2.2.2.2.1, x.2.2.2.2.2.2.2.2.1, x.2.2.2.2.2.2.2.2.2, ())))
def L90_0q : LoopSum := ⟨I90_0q, O90_0q, Z90_0q, fun k d => c90_0q (giroref16_Post_L1 k k) d, e90_0q⟩
def I90_1q : Spec := ⟨[(1, .c (.dat false y7q)), (2, .c (.lit (.ptr 1001000 0))), (4, .c (.lit (.ptr 1001001 0))), (6, .c (.lit (.ptr 1001002 0))), (7, .c (.int .i64))], [.box true [.dat true y3q, .dat true (.sl (.int .i64)), .dat true (.int .i64), .dat true (.sl (.int .i64))], .box true [.lit .nsl, .lit .nsl, .lit .nsl, .lit .nsl], .box true [.lit (.osl 1001003 none), .lit (.osl 1001004 none), .lit (.osl 1001005 none), .lit (.osl 1001006 none)], .arr true y3q, .mat, .arr true (.int .i64), .mat], []⟩
def X0_90_1q : Spec := ⟨[(2, .c (.lit (.ptr 1001000 0))), (4, .c (.lit (.ptr 1001001 0))), (6, .c (.lit (.ptr 1001002 0)))], [.box true [.dat true y3q, .dat true (.sl (.int .i64)), .dat true (.int .i64), .dat true (.sl (.int .i64))], .box true [.lit .nsl, .lit .nsl, .lit .nsl, .lit .nsl], .box true [.lit (.osl 1001003 none), .lit (.osl 1001004 none), .lit (.osl 1001005 none), .lit (.osl 1001006 none)], .arr true y3q, .mat, .arr true (.int .i64), .mat], []⟩
def O90_1q : List (Ex × Spec) := [(.exit 0, X0_90_1q)]
abbrev Z90_1q : Type := (List K2q) × (List (List Int)) × (List Int) × (List (List Int)) × (List K2q) × (List (List Int)) × (List Int) × (List (List Int))
def c90_1q (f : List K1q → Int → List K2q → List (List Int) → List Int → List (List Int) → List K2q → List (List Int) → List Int → List (List Int) → Option Z90_1q) (d : I90_1q.den) : Option Z90_1q := f d.1.1.1 d.1.2.2.2.2.1.1 d.2.1.1 d.2.1.2.1 d.2.1.2.2.1 d.2.1.2.2.2.1 d.2.2.2.2.1 d.2.2.2.2.2.1 d.2.2.2.2.2.2.1 d.2.2.2.2.2.2.2.1
def T90_1q : OutD O90_1q → Z90_1q := fun d => (d.2.1.1, d.2.1.2.1, d.2.1.2.2.1, d.2.1.2.2.2.1, d.2.2.2.2.1, d.2.2.2.2.2.1, d.2.2.2.2.2.2.1, d.2.2.2.2.2.2.2.1)
def e90_1q (base : Nat) (x : Z90_1q) (R : Type) (K : Ex → St → Option R) : Option R := K (.exit 0) (stOf base X0_90_1q (((), (), (), ()), ((x.1, x.2.1, x.2.2.1, x.2.2.2.1, ()), (), (), x.2.2.2.2.1, x.2.2.2.2.2.1, x.2.2.2.2.2.2.1, x.2.2.2.2.2.2.2, ())))
def L90_1q : LoopSum := ⟨I90_1q, O90_1q, Z90_1q, fun k d => c90_1q (giroref16_Post_L0 k k) d, e90_1q⟩
def A90q : Notes := ⟨[], [(9, L90_0q), (5, L90_1q)]⟩
theorem Eo90q : EnvOK E90q := ⟨eqOK_none, sumsOf_ok (List.forall_mem_cons.2 ⟨Ro81q, List.forall_mem_cons.2 ⟨Ro83q, List.forall_mem_cons.2 ⟨Ro84q, List.forall_mem_cons.2 ⟨Ro41q, List.forall_mem_cons.2 ⟨Ro85q, List.forall_mem_cons.2 ⟨Ro89q, List.forall_mem_nil _⟩⟩⟩⟩⟩⟩)⟩
theorem El90q : SumsLocal E90q.sums := sumsOf_local (List.forall_mem_cons.2 ⟨Rl81q, List.forall_mem_cons.2 ⟨Rl83q, List.forall_mem_cons.2 ⟨Rl84q, List.forall_mem_cons.2 ⟨Rl41q, List.forall_mem_cons.2 ⟨Rl85q, List.forall_mem_cons.2 ⟨Rl89q, List.forall_mem_nil _⟩⟩⟩⟩⟩⟩)
theorem st90_0q (k : Nat) (rec : List K1q → Int → Int → List K2q → List (List Int) → List Int → List (List Int) → List K2q → List (List Int) → List Int → List (List Int) → Option Z90_0q) (d : I90_0q.den) : c90_0q (giroref16_Post_L1b k rec) d = evC E90q A90q k 1000 0 84 (loopAt (loopAt (bodyOf Proofs.Try.f28) 0) 0) (stOf (1000 + loopBase) I90_0q d) (roundK 1000 I90_0q O90_0q T90_0q (c90_0q rec)) := by
  obtain ⟨⟨⟨_, _⟩, _, _, _, ⟨_, _⟩, ⟨_, _⟩, _⟩, ⟨⟨_, _, _, _, _⟩, _, _, _, _, _, _, _⟩⟩ := d
  kernel_rfl
theorem lk90_0q : LoopOK Proofs.Try.prog 1000 0 84 (loopAt (loopAt (bodyOf Proofs.Try.f28) 0) 0) L90_0q :=
  loop_sound (A := A90q) (inS := I90_0q) (outs := O90_0q) Eo90q El90q mixed_orders (loopsOK_none (by kernel_rfl)) T90_0q e90_0q (fun _ _ _ => rfl) (fun k n d => c90_0q (giroref16_Post_L1 k n) d) (fun _ _ => rfl) (fun k n d => st90_0q k (giroref16_Post_L1 k n) d)
theorem st90_1q (k : Nat) (rec : List K1q → Int → List K2q → List (List Int) → List Int → List (List Int) → List K2q → List (List Int) → List Int → List (List Int) → Option Z90_1q) (d : I90_1q.den) : c90_1q (giroref16_Post_L0b k rec) d = evC E90q A90q k 1000 0 84 (loopAt (bodyOf Proofs.Try.f28) 0) (stOf (1000 + loopBase) I90_1q d) (roundK 1000 I90_1q O90_1q T90_1q (c90_1q rec)) := by
  obtain ⟨⟨⟨_, _⟩, _, _, _, ⟨_, _⟩, _⟩, ⟨⟨_, _, _, _, _⟩, _, _, _, _, _, _, _⟩⟩ := d
  kernel_rfl
theorem lk90_1q : LoopOK Proofs.Try.prog 1000 0 84 (loopAt (bodyOf Proofs.Try.f28) 0) L90_1q :=
  loop_sound (A := A90q) (inS := I90_1q) (outs := O90_1q) Eo90q El90q mixed_orders (loopsOK_of (n := 1) (by kernel_rfl) fun i hi => match i, hi with | 0, _ => ⟨L90_0q, by kernel_rfl, lk90_0q⟩ | i + 1, hi => absurd hi (by omega)) T90_1q e90_1q (fun _ _ _ => rfl) (fun k n d => c90_1q (giroref16_Post_L0 k n) d) (fun _ _ => rfl) (fun k n d => st90_1q k (giroref16_Post_L0 k n) d)
def as90q : List AS := [.agg [.dat true y3q, .dat true (.sl (.int .i64)), .dat true (.int .i64), .dat true (.sl (.int .i64))], .c (.dat false y7q)]
def rs90q : RS := .tup [(true, [.fro y3q, .fro (.sl (.int .i64)), .fro (.int .i64), .fro (.sl (.int .i64))]), (false, [.int .i64])]
def pk90q : (List K2q) × (List (List Int)) × (List Int) × (List (List Int)) × Int → RL rs90q.cells := fun x => (x.1, x.2.1, x.2.2.1, x.2.2.2.1, x.2.2.2.2, ())
def up90q : RL rs90q.cells → (List K2q) × (List (List Int)) × (List Int) × (List (List Int)) × Int := fun d => (d.1, d.2.1, d.2.2.1, d.2.2.2.1, d.2.2.2.2.1)
def R90q : Nat × Entry := (28, fun k nm args h => entry as90q rs90q (fun d => giroref16_Post k d.1 d.2.1 d.2.2.1 d.2.2.2.1 d.2.2.2.2.1) pk90q nm args h)
theorem ev90q (k : Nat) (d : AD as90q) : evF E90q A90q k 1000 0 Proofs.Try.f28 (absArgs as90q d).1 (absArgs as90q d).2 (outM rs90q up90q) = giroref16_Post k d.1 d.2.1 d.2.2.1 d.2.2.2.1 d.2.2.2.2.1 := by
  obtain ⟨_, _, _, _, _, _⟩ := d
  kernel_rfl
theorem Ro90q : EntryOK Proofs.Try.prog R90q := fun k _ _ _ _ _ hy =>
  entry_sound (unpack := up90q) (A := A90q) (k := k) (pre := 1000) (na := 0) (E := E90q) Eo90q El90q mixed_orders (f := 28) (fn := Proofs.Try.f28) (by kernel_rfl) (body_loops (loopsOK_of (n := 1) (by kernel_rfl) fun i hi => match i, hi with | 0, _ => ⟨L90_1q, by kernel_rfl, lk90_1q⟩ | i + 1, hi => absurd hi (by omega))) (enters (fn := Proofs.Try.f28) (by kernel_rfl) (by kernel_rfl) (by kernel_rfl)) (fun _ => rfl) (ev90q k) hy
theorem Rl90q : EntryLocal R90q.2 := entry_local (S := fun k (d : AD as90q) => giroref16_Post k d.1 d.2.1 d.2.2.1 d.2.2.2.1 d.2.2.2.2.1)

/-! ### giro/giroref15.Fits -/
noncomputable def E103q : Env := ⟨Proofs.Try.prog, fun _ => false, sumsOf [R81q, R43q]⟩
def A103q : Notes := ⟨[], []⟩
theorem Eo103q : EnvOK E103q := ⟨eqOK_none, sumsOf_ok (List.forall_mem_cons.2 ⟨Ro81q, List.forall_mem_cons.2 ⟨Ro43q, List.forall_mem_nil _⟩⟩)⟩
theorem El103q : SumsLocal E103q.sums := sumsOf_local (List.forall_mem_cons.2 ⟨Rl81q, List.forall_mem_cons.2 ⟨Rl43q, List.forall_mem_nil _⟩⟩)
def as103q : List AS := [.agg [.dat false y3q, .dat false (.sl (.int .i64)), .dat false (.int .i64), .dat false (.sl (.int .i64))], .c (.dat false y7q)]
def rs103q : RS := .c (.bool)
def pk103q : Bool → RL rs103q.cells := fun x => (x, ())
def up103q : RL rs103q.cells → Bool := fun d => d.1
def R103q : Nat × Entry := (25, fun k nm args h => entry as103q rs103q (fun d => giroref15_Fits k d.1 d.2.1 d.2.2.1 d.2.2.2.1 d.2.2.2.2.1) pk103q nm args h)
theorem ev103q (k : Nat) (d : AD as103q) : evF E103q A103q k 1000 0 Proofs.Try.f25 (absArgs as103q d).1 (absArgs as103q d).2 (outM rs103q up103q) = giroref15_Fits k d.1 d.2.1 d.2.2.1 d.2.2.2.1 d.2.2.2.2.1 := by
  obtain ⟨_, _, _, _, _, _⟩ := d
  kernel_rfl
theorem Ro103q : EntryOK Proofs.Try.prog R103q := fun k _ _ _ _ _ hy =>
  entry_sound (unpack := up103q) (A := A103q) (k := k) (pre := 1000) (na := 0) (E := E103q) Eo103q El103q mixed_orders (f := 25) (fn := Proofs.Try.f25) (by kernel_rfl) (body_loops (loopsOK_none (by kernel_rfl))) (enters (fn := Proofs.Try.f25) (by kernel_rfl) (by kernel_rfl) (by kernel_rfl)) (fun _ => rfl) (ev103q k) hy
theorem Rl103q : EntryLocal R103q.2 := entry_local (S := fun k (d : AD as103q) => giroref15_Fits k d.1 d.2.1 d.2.2.1 d.2.2.2.1 d.2.2.2.2.1)

/-! ### giro/girolaw21.some -/
noncomputable def E108q : Env := ⟨Proofs.Try.prog, fun _ => false, sumsOf []⟩
def I108_0q : Spec := ⟨[(0, .c (.dat false (.int .i64))), (1, .c (.int .i64)), (4, .c (.lit (.ptr 1001000 0))), (5, .c (.lit (.ptr 1001001 0))), (6, .c (.int .i64))], [.box true [.lit .nsl, .lit .nsl, .lit .nsl, .lit .nsl], .box true [.lit (.osl 1001002 none), .lit (.osl 1001003 none), .lit (.osl 1001004 none), .lit (.osl 1001005 none)], .arr true y3q, .mat, .arr true (.int .i64), .mat], [(5, some 0, y3q, false)]⟩
def X0_108_0q : Spec := ⟨[(1, .c (.int .i64)), (4, .c (.lit (.ptr 1001000 0))), (5, .c (.lit (.ptr 1001001 0)))], [.box true [.lit .nsl, .lit .nsl, .lit .nsl, .lit .nsl], .box true [.lit (.osl 1001002 none), .lit (.osl 1001003 none), .lit (.osl 1001004 none), .lit (.osl 1001005 none)], .arr true y3q, .mat, .arr true (.int .i64), .mat], []⟩
def O108_0q : List (Ex × Spec) := [(.exit 0, X0_108_0q)]
abbrev Z108_0q : Type := Int × (List K2q) × (List (List Int)) × (List Int) × (List (List Int))
def c108_0q (f : List Int → Int → Int → List K2q → List (List Int) → List Int → List (List Int) → Option Z108_0q) (d : I108_0q.den) : Option Z108_0q := f d.1.1.1 d.1.2.1.1 d.1.2.2.2.2.1.1 d.2.2.2.1 d.2.2.2.2.1 d.2.2.2.2.2.1 d.2.2.2.2.2.2.1
def T108_0q : OutD O108_0q → Z108_0q := fun d => (d.1.1.1, d.2.2.2.1, d.2.2.2.2.1, d.2.2.2.2.2.1, d.2.2.2.2.2.2.1)
def e108_0q (base : Nat) (x : Z108_0q) (R : Type) (K : Ex → St → Option R) : Option R := K (.exit 0) (stOf base X0_108_0q (((x.1, ()), (), (), ()), ((), (), x.2.1, x.2.2.1, x.2.2.2.1, x.2.2.2.2, ())))
def L108_0q : LoopSum := ⟨I108_0q, O108_0q, Z108_0q, fun k d => c108_0q (girolaw21_some_L0 k k) d, e108_0q⟩
def A108q : Notes := ⟨[11, 16], [(3, L108_0q)]⟩
theorem Eo108q : EnvOK E108q := ⟨eqOK_none, sumsOf_ok (List.forall_mem_nil _)⟩
theorem El108q : SumsLocal E108q.sums := sumsOf_local (List.forall_mem_nil _)
theorem st108_0q (k : Nat) (rec : List Int → Int → Int → List K2q → List (List Int) → List Int → List (List Int) → Option Z108_0q) (d : I108_0q.den) : c108_0q (girolaw21_some_L0b k rec) d = evC E108q A108q k 1000 0 91 (loopAt (bodyOf Proofs.Try.f32) 0) (stOf (1000 + loopBase) I108_0q d) (roundK 1000 I108_0q O108_0q T108_0q (c108_0q rec)) := by
  obtain ⟨⟨⟨_, _⟩, ⟨_, _⟩, _, _, ⟨_, _⟩, _⟩, ⟨_, _, _, _, _, _, _⟩⟩ := d
  kernel_rfl
theorem lk108_0q : LoopOK Proofs.Try.prog 1000 0 91 (loopAt (bodyOf Proofs.Try.f32) 0) L108_0q :=
  loop_sound (A := A108q) (inS := I108_0q) (outs := O108_0q) Eo108q El108q mixed_orders (loopsOK_none (by kernel_rfl)) T108_0q e108_0q (fun _ _ _ => rfl) (fun k n d => c108_0q (girolaw21_some_L0 k n) d) (fun _ _ => rfl) (fun k n d => st108_0q k (girolaw21_some_L0 k n) d)
def as108q : List AS := [.c (.dat false (.int .i64)), .c (.int .i64)]
def rs108q : RS := .agg [.own y3q, .mat, .own (.int .i64), .mat]
def pk108q : (List K2q) × (List (List Int)) × (List Int) × (List (List Int)) → RL rs108q.cells := fun x => (x.1, x.2.1, x.2.2.1, x.2.2.2, ())
def up108q : RL rs108q.cells → (List K2q) × (List (List Int)) × (List Int) × (List (List Int)) := fun d => (d.1, d.2.1, d.2.2.1, d.2.2.2.1)
def R108q : Nat × Entry := (32, fun k nm args h => entry as108q rs108q (fun d => girolaw21_some k d.1 d.2.1) pk108q nm args h)
theorem ev108q (k : Nat) (d : AD as108q) : evF E108q A108q k 1000 0 Proofs.Try.f32 (absArgs as108q d).1 (absArgs as108q d).2 (outM rs108q up108q) = girolaw21_some k d.1 d.2.1 := by
  obtain ⟨_, _, _⟩ := d
  kernel_rfl
theorem Ro108q : EntryOK Proofs.Try.prog R108q := fun k _ _ _ _ _ hy =>
  entry_sound (unpack := up108q) (A := A108q) (k := k) (pre := 1000) (na := 0) (E := E108q) Eo108q El108q mixed_orders (f := 32) (fn := Proofs.Try.f32) (by kernel_rfl) (body_loops (loopsOK_of (n := 1) (by kernel_rfl) fun i hi => match i, hi with | 0, _ => ⟨L108_0q, by kernel_rfl, lk108_0q⟩ | i + 1, hi => absurd hi (by omega))) (enters (fn := Proofs.Try.f32) (by kernel_rfl) (by kernel_rfl) (by kernel_rfl)) (fun _ => rfl) (ev108q k) hy
theorem Rl108q : EntryLocal R108q.2 := entry_local (S := fun k (d : AD as108q) => girolaw21_some k d.1 d.2.1)

/-! ### giro/girolaw21.rowed -/
noncomputable def E109q : Env := ⟨Proofs.Try.prog, fun _ => false, sumsOf [R5q]⟩
def I109_0q : Spec := ⟨[(0, .c (.dat false y7q)), (3, .c (.dat true y7q)), (4, .c (.int .i64))], [], []⟩
def X0_109_0q : Spec := ⟨[(3, .c (.dat true y7q))], [], []⟩
def O109_0q : List (Ex × Spec) := [(.exit 0, X0_109_0q)]
abbrev Z109_0q : Type := List K1q
def c109_0q (f : List K1q → List K1q → Int → Option Z109_0q) (d : I109_0q.den) : Option Z109_0q := f d.1.1.1 d.1.2.1.1 d.1.2.2.1.1
def T109_0q : OutD O109_0q → Z109_0q := fun d => d.1.1.1
def e109_0q (base : Nat) (x : Z109_0q) (R : Type) (K : Ex → St → Option R) : Option R := K (.exit 0) (stOf base X0_109_0q (((x, ()), ()), ()))
def L109_0q : LoopSum := ⟨I109_0q, O109_0q, Z109_0q, fun k d => c109_0q (girolaw21_rowed_L0 k k) d, e109_0q⟩
def A109q : Notes := ⟨[], [(3, L109_0q)]⟩
theorem Eo109q : EnvOK E109q := ⟨eqOK_none, sumsOf_ok (List.forall_mem_cons.2 ⟨Ro5q, List.forall_mem_nil _⟩)⟩
theorem El109q : SumsLocal E109q.sums := sumsOf_local (List.forall_mem_cons.2 ⟨Rl5q, List.forall_mem_nil _⟩)
theorem st109_0q (k : Nat) (rec : List K1q → List K1q → Int → Option Z109_0q) (d : I109_0q.den) : c109_0q (girolaw21_rowed_L0b k rec) d = evC E109q A109q k 1000 0 74 (loopAt (bodyOf Proofs.Try.f33) 0) (stOf (1000 + loopBase) I109_0q d) (roundK 1000 I109_0q O109_0q T109_0q (c109_0q rec)) := by
  obtain ⟨⟨⟨_, _⟩, ⟨_, _⟩, ⟨_, _⟩, _⟩, _⟩ := d
  kernel_rfl
theorem lk109_0q : LoopOK Proofs.Try.prog 1000 0 74 (loopAt (bodyOf Proofs.Try.f33) 0) L109_0q :=
  loop_sound (A := A109q) (inS := I109_0q) (outs := O109_0q) Eo109q El109q mixed_orders (loopsOK_none (by kernel_rfl)) T109_0q e109_0q (fun _ _ _ => rfl) (fun k n d => c109_0q (girolaw21_rowed_L0 k n) d) (fun _ _ => rfl) (fun k n d => st109_0q k (girolaw21_rowed_L0 k n) d)
def as109q : List AS := [.c (.dat false y7q)]
def rs109q : RS := .c (.fro y7q)
def pk109q : List K1q → RL rs109q.cells := fun x => (x, ())
def up109q : RL rs109q.cells → List K1q := fun d => d.1
def R109q : Nat × Entry := (33, fun k nm args h => entry as109q rs109q (fun d => girolaw21_rowed k d.1) pk109q nm args h)
theorem ev109q (k : Nat) (d : AD as109q) : evF E109q A109q k 1000 0 Proofs.Try.f33 (absArgs as109q d).1 (absArgs as109q d).2 (outM rs109q up109q) = girolaw21_rowed k d.1 := by
  obtain ⟨_, _⟩ := d
  kernel_rfl
theorem Ro109q : EntryOK Proofs.Try.prog R109q := fun k _ _ _ _ _ hy =>
  entry_sound (unpack := up109q) (A := A109q) (k := k) (pre := 1000) (na := 0) (E := E109q) Eo109q El109q mixed_orders (f := 33) (fn := Proofs.Try.f33) (by kernel_rfl) (body_loops (loopsOK_of (n := 1) (by kernel_rfl) fun i hi => match i, hi with | 0, _ => ⟨L109_0q, by kernel_rfl, lk109_0q⟩ | i + 1, hi => absurd hi (by omega))) (enters (fn := Proofs.Try.f33) (by kernel_rfl) (by kernel_rfl) (by kernel_rfl)) (fun _ => rfl) (ev109q k) hy
theorem Rl109q : EntryLocal R109q.2 := entry_local (S := fun k (d : AD as109q) => girolaw21_rowed k d.1)

end Go.Ab.Gi
