/- The shallow functions are what the program does, printed (abprint.py). -/
import Derived.Test.YtpmkkfbnaohlhaaGiXS
import Derived.Test.YtpmkkfbnaohlhaaProg
set_option linter.unusedVariables false
set_option maxRecDepth 100000
namespace Go.Ab.Gi

theorem mixed_orders : Proofs.Try.prog.follows .mixedOrders = true := by kernel_rfl

/-! ### giro/lim.Net -/
noncomputable def E4q : Env := ⟨Proofs.Try.prog, fun _ => false, sumsOf []⟩
def I4_0q : Spec := ⟨[(5, .c (.int .i64)), (12, .c (.dat false (.int .i64))), (13, .c (.int .i64)), (14, .c (.int .i64))], [], []⟩
def X0_4_0q : Spec := ⟨[(5, .c (.int .i64))], [], []⟩
def O4_0q : List (Ex × Spec) := [(.exit 0, X0_4_0q)]
abbrev Z4_0q : Type := Int
def c4_0q (f : Int → List Int → Int → Int → Option Z4_0q) (d : I4_0q.den) : Option Z4_0q := f d.1.1.1 d.1.2.1.1 d.1.2.2.1.1 d.1.2.2.2.1.1
def T4_0q : OutD O4_0q → Z4_0q := fun d => d.1.1.1
def e4_0q (base : Nat) (x : Z4_0q) (R : Type) (K : Ex → St → Option R) : Option R := K (.exit 0) (stOf base X0_4_0q (((x, ()), ()), ()))
def L4_0q : LoopSum := ⟨I4_0q, O4_0q, Z4_0q, fun k d => c4_0q (lim_Net_L0 k k) d, e4_0q⟩
def A4q : Notes := ⟨[], [(3, L4_0q)]⟩
theorem Eo4q : EnvOK E4q := ⟨eqOK_none, sumsOf_ok (List.forall_mem_nil _)⟩
theorem El4q : SumsLocal E4q.sums := sumsOf_local (List.forall_mem_nil _)
theorem st4_0q (k : Nat) (rec : Int → List Int → Int → Int → Option Z4_0q) (d : I4_0q.den) : c4_0q (lim_Net_L0b k rec) d = evC E4q A4q k 1000 0 23 (loopAt (bodyOf Proofs.Try.f16) 0) (stOf (1000 + loopBase) I4_0q d) (roundK 1000 I4_0q O4_0q T4_0q (c4_0q rec)) := by
  obtain ⟨⟨⟨_, _⟩, ⟨_, _⟩, ⟨_, _⟩, ⟨_, _⟩, _⟩, _⟩ := d
  kernel_rfl
theorem lk4_0q : LoopOK Proofs.Try.prog 1000 0 23 (loopAt (bodyOf Proofs.Try.f16) 0) L4_0q :=
  loop_sound (A := A4q) (inS := I4_0q) (outs := O4_0q) Eo4q El4q mixed_orders (loopsOK_none (by kernel_rfl)) T4_0q e4_0q (fun _ _ _ => rfl) (fun k n d => c4_0q (lim_Net_L0 k n) d) (fun _ _ => rfl) (fun k n d => st4_0q k (lim_Net_L0 k n) d)
def as4q : List AS := [.agg [.dat false y3q, .dat false (.sl (.int .i64)), .dat false (.int .i64), .dat false (.sl (.int .i64))], .c (.int .i64)]
def rs4q : RS := .c (.int .i64)
def pk4q : Int → RL rs4q.cells := fun x => (x, ())
def up4q : RL rs4q.cells → Int := fun d => d.1
def R4q : Nat × Entry := (16, fun k nm args h => entry as4q rs4q (fun d => lim_Net k d.1 d.2.1 d.2.2.1 d.2.2.2.1 d.2.2.2.2.1) pk4q nm args h)
theorem ev4q (k : Nat) (d : AD as4q) : evF E4q A4q k 1000 0 Proofs.Try.f16 (absArgs as4q d).1 (absArgs as4q d).2 (outM rs4q up4q) = lim_Net k d.1 d.2.1 d.2.2.1 d.2.2.2.1 d.2.2.2.2.1 := by
  obtain ⟨_, _, _, _, _, _⟩ := d
  kernel_rfl
theorem Ro4q : EntryOK Proofs.Try.prog R4q := fun k _ _ _ _ _ hy =>
  entry_sound (unpack := up4q) (A := A4q) (k := k) (pre := 1000) (na := 0) (E := E4q) Eo4q El4q mixed_orders (f := 16) (fn := Proofs.Try.f16) (by kernel_rfl) (body_loops (loopsOK_of (n := 1) (by kernel_rfl) fun i hi => match i, hi with | 0, _ => ⟨L4_0q, by kernel_rfl, lk4_0q⟩ | i + 1, hi => absurd hi (by omega))) (enters (fn := Proofs.Try.f16) (by kernel_rfl) (by kernel_rfl) (by kernel_rfl)) (fun _ => rfl) (ev4q k) hy
theorem Rl4q : EntryLocal R4q.2 := entry_local (S := fun k (d : AD as4q) => lim_Net k d.1 d.2.1 d.2.2.1 d.2.2.2.1 d.2.2.2.2.1)

/-! ### giro/lim.isSize -/
noncomputable def E7q : Env := ⟨Proofs.Try.prog, fun _ => false, sumsOf []⟩
def A7q : Notes := ⟨[], []⟩
theorem Eo7q : EnvOK E7q := ⟨eqOK_none, sumsOf_ok (List.forall_mem_nil _)⟩
theorem El7q : SumsLocal E7q.sums := sumsOf_local (List.forall_mem_nil _)
def as7q : List AS := [.c (.int .i64)]
def rs7q : RS := .c (.bool)
def pk7q : Bool → RL rs7q.cells := fun x => (x, ())
def up7q : RL rs7q.cells → Bool := fun d => d.1
def R7q : Nat × Entry := (68, fun k nm args h => entry as7q rs7q (fun d => lim_isSize k d.1) pk7q nm args h)
theorem ev7q (k : Nat) (d : AD as7q) : evF E7q A7q k 1000 0 Proofs.Try.f68 (absArgs as7q d).1 (absArgs as7q d).2 (outM rs7q up7q) = lim_isSize k d.1 := by
  obtain ⟨_, _⟩ := d
  kernel_rfl
theorem Ro7q : EntryOK Proofs.Try.prog R7q := fun k _ _ _ _ _ hy =>
  entry_sound (unpack := up7q) (A := A7q) (k := k) (pre := 1000) (na := 0) (E := E7q) Eo7q El7q mixed_orders (f := 68) (fn := Proofs.Try.f68) (by kernel_rfl) (body_loops (loopsOK_none (by kernel_rfl))) (enters (fn := Proofs.Try.f68) (by kernel_rfl) (by kernel_rfl) (by kernel_rfl)) (fun _ => rfl) (ev7q k) hy
theorem Rl7q : EntryLocal R7q.2 := entry_local (S := fun k (d : AD as7q) => lim_isSize k d.1)

/-! ### giro/lim.Row -/
noncomputable def E8q : Env := ⟨Proofs.Try.prog, fun _ => false, sumsOf [R7q]⟩
def I8_0q : Spec := ⟨[(1, .c (.int .i64)), (5, .c (.lit (.osl 1001000 none))), (13, .c (.int .i64)), (14, .c (.int .i64))], [.arr true (.int .i64)], []⟩
def X0_8_0q : Spec := ⟨[(5, .c (.lit (.osl 1001000 none)))], [.arr true (.int .i64)], []⟩
def O8_0q : List (Ex × Spec) := [(.exit 0, X0_8_0q)]
abbrev Z8_0q : Type := List Int
def c8_0q (f : Int → Int → Int → List Int → Option Z8_0q) (d : I8_0q.den) : Option Z8_0q := f d.1.1.1 d.1.2.2.1.1 d.1.2.2.2.1.1 d.2.1
def T8_0q : OutD O8_0q → Z8_0q := fun d => d.2.1
def e8_0q (base : Nat) (x : Z8_0q) (R : Type) (K : Ex → St → Option R) : Option R := K (.exit 0) (stOf base X0_8_0q (((), ()), (x, ())))
def L8_0q : LoopSum := ⟨I8_0q, O8_0q, Z8_0q, fun k d => c8_0q (lim_Row_L0 k k) d, e8_0q⟩
def A8q : Notes := ⟨[], [(5, L8_0q)]⟩
theorem Eo8q : EnvOK E8q := ⟨eqOK_none, sumsOf_ok (List.forall_mem_cons.2 ⟨Ro7q, List.forall_mem_nil _⟩)⟩
theorem El8q : SumsLocal E8q.sums := sumsOf_local (List.forall_mem_cons.2 ⟨Rl7q, List.forall_mem_nil _⟩)
theorem st8_0q (k : Nat) (rec : Int → Int → Int → List Int → Option Z8_0q) (d : I8_0q.den) : c8_0q (lim_Row_L0b k rec) d = evC E8q A8q k 1000 0 23 (loopAt (bodyOf Proofs.Try.f27) 0) (stOf (1000 + loopBase) I8_0q d) (roundK 1000 I8_0q O8_0q T8_0q (c8_0q rec)) := by
  obtain ⟨⟨⟨_, _⟩, _, ⟨_, _⟩, ⟨_, _⟩, _⟩, ⟨_, _⟩⟩ := d
  kernel_rfl
theorem lk8_0q : LoopOK Proofs.Try.prog 1000 0 23 (loopAt (bodyOf Proofs.Try.f27) 0) L8_0q :=
  loop_sound (A := A8q) (inS := I8_0q) (outs := O8_0q) Eo8q El8q mixed_orders (loopsOK_none (by kernel_rfl)) T8_0q e8_0q (fun _ _ _ => rfl) (fun k n d => c8_0q (lim_Row_L0 k n) d) (fun _ _ => rfl) (fun k n d => st8_0q k (lim_Row_L0 k n) d)
def as8q : List AS := [.c (.int .i64), .c (.int .i64)]
def rs8q : RS := .c (.own (.int .i64))
def pk8q : List Int → RL rs8q.cells := fun x => (x, ())
def up8q : RL rs8q.cells → List Int := fun d => d.1
def R8q : Nat × Entry := (27, fun k nm args h => entry as8q rs8q (fun d => lim_Row k d.1 d.2.1) pk8q nm args h)
theorem ev8q (k : Nat) (d : AD as8q) : evF E8q A8q k 1000 0 Proofs.Try.f27 (absArgs as8q d).1 (absArgs as8q d).2 (outM rs8q up8q) = lim_Row k d.1 d.2.1 := by
  obtain ⟨_, _, _⟩ := d
  kernel_rfl
theorem Ro8q : EntryOK Proofs.Try.prog R8q := fun k _ _ _ _ _ hy =>
  entry_sound (unpack := up8q) (A := A8q) (k := k) (pre := 1000) (na := 0) (E := E8q) Eo8q El8q mixed_orders (f := 27) (fn := Proofs.Try.f27) (by kernel_rfl) (body_loops (loopsOK_of (n := 1) (by kernel_rfl) fun i hi => match i, hi with | 0, _ => ⟨L8_0q, by kernel_rfl, lk8_0q⟩ | i + 1, hi => absurd hi (by omega))) (enters (fn := Proofs.Try.f27) (by kernel_rfl) (by kernel_rfl) (by kernel_rfl)) (fun _ => rfl) (ev8q k) hy
theorem Rl8q : EntryLocal R8q.2 := entry_local (S := fun k (d : AD as8q) => lim_Row k d.1 d.2.1)

/-! ### giro/lim.Square -/
noncomputable def E9q : Env := ⟨Proofs.Try.prog, fun _ => false, sumsOf [R7q, R8q]⟩
def I9_0q : Spec := ⟨[(0, .c (.int .i64)), (1, .c (.int .i64)), (5, .c (.lit (.osl 1001000 none))), (13, .c (.int .i64)), (14, .c (.int .i64))], [.mat], []⟩
def X0_9_0q : Spec := ⟨[(5, .c (.lit (.osl 1001000 none)))], [.mat], []⟩
def O9_0q : List (Ex × Spec) := [(.exit 0, X0_9_0q)]
abbrev Z9_0q : Type := List (List Int)
def c9_0q (f : Int → Int → Int → Int → List (List Int) → Option Z9_0q) (d : I9_0q.den) : Option Z9_0q := f d.1.1.1 d.1.2.1.1 d.1.2.2.2.1.1 d.1.2.2.2.2.1.1 d.2.1
def T9_0q : OutD O9_0q → Z9_0q := fun d => d.2.1
def e9_0q (base : Nat) (x : Z9_0q) (R : Type) (K : Ex → St → Option R) : Option R := K (.exit 0) (stOf base X0_9_0q (((), ()), (x, ())))
def L9_0q : LoopSum := ⟨I9_0q, O9_0q, Z9_0q, fun k d => c9_0q (lim_Square_L0 k k) d, e9_0q⟩
def A9q : Notes := ⟨[11], [(5, L9_0q)]⟩
theorem Eo9q : EnvOK E9q := ⟨eqOK_none, sumsOf_ok (List.forall_mem_cons.2 ⟨Ro7q, List.forall_mem_cons.2 ⟨Ro8q, List.forall_mem_nil _⟩⟩)⟩
theorem El9q : SumsLocal E9q.sums := sumsOf_local (List.forall_mem_cons.2 ⟨Rl7q, List.forall_mem_cons.2 ⟨Rl8q, List.forall_mem_nil _⟩⟩)
theorem st9_0q (k : Nat) (rec : Int → Int → Int → Int → List (List Int) → Option Z9_0q) (d : I9_0q.den) : c9_0q (lim_Square_L0b k rec) d = evC E9q A9q k 1000 0 25 (loopAt (bodyOf Proofs.Try.f24) 0) (stOf (1000 + loopBase) I9_0q d) (roundK 1000 I9_0q O9_0q T9_0q (c9_0q rec)) := by
  obtain ⟨⟨⟨_, _⟩, ⟨_, _⟩, _, ⟨_, _⟩, ⟨_, _⟩, _⟩, ⟨_, _⟩⟩ := d
  kernel_rfl
theorem lk9_0q : LoopOK Proofs.Try.prog 1000 0 25 (loopAt (bodyOf Proofs.Try.f24) 0) L9_0q :=
  loop_sound (A := A9q) (inS := I9_0q) (outs := O9_0q) Eo9q El9q mixed_orders (loopsOK_none (by kernel_rfl)) T9_0q e9_0q (fun _ _ _ => rfl) (fun k n d => c9_0q (lim_Square_L0 k n) d) (fun _ _ => rfl) (fun k n d => st9_0q k (lim_Square_L0 k n) d)
def as9q : List AS := [.c (.int .i64), .c (.int .i64)]
def rs9q : RS := .c (.mat)
def pk9q : List (List Int) → RL rs9q.cells := fun x => (x, ())
def up9q : RL rs9q.cells → List (List Int) := fun d => d.1
def R9q : Nat × Entry := (24, fun k nm args h => entry as9q rs9q (fun d => lim_Square k d.1 d.2.1) pk9q nm args h)
theorem ev9q (k : Nat) (d : AD as9q) : evF E9q A9q k 1000 0 Proofs.Try.f24 (absArgs as9q d).1 (absArgs as9q d).2 (outM rs9q up9q) = lim_Square k d.1 d.2.1 := by
  obtain ⟨_, _, _⟩ := d
  kernel_rfl
theorem Ro9q : EntryOK Proofs.Try.prog R9q := fun k _ _ _ _ _ hy =>
  entry_sound (unpack := up9q) (A := A9q) (k := k) (pre := 1000) (na := 0) (E := E9q) Eo9q El9q mixed_orders (f := 24) (fn := Proofs.Try.f24) (by kernel_rfl) (body_loops (loopsOK_of (n := 1) (by kernel_rfl) fun i hi => match i, hi with | 0, _ => ⟨L9_0q, by kernel_rfl, lk9_0q⟩ | i + 1, hi => absurd hi (by omega))) (enters (fn := Proofs.Try.f24) (by kernel_rfl) (by kernel_rfl) (by kernel_rfl)) (fun _ => rfl) (ev9q k) hy
theorem Rl9q : EntryLocal R9q.2 := entry_local (S := fun k (d : AD as9q) => lim_Square k d.1 d.2.1)

/-! ### giro/acct.Is -/
noncomputable def E12q : Env := ⟨Proofs.Try.prog, fun _ => false, sumsOf []⟩
def A12q : Notes := ⟨[], []⟩
theorem Eo12q : EnvOK E12q := ⟨eqOK_none, sumsOf_ok (List.forall_mem_nil _)⟩
theorem El12q : SumsLocal E12q.sums := sumsOf_local (List.forall_mem_nil _)
def as12q : List AS := [.agg [.int .i64, .int .i64, .int .i64]]
def rs12q : RS := .c (.bool)
def pk12q : Bool → RL rs12q.cells := fun x => (x, ())
def up12q : RL rs12q.cells → Bool := fun d => d.1
def R12q : Nat × Entry := (87, fun k nm args h => entry as12q rs12q (fun d => acct_Is k d.1 d.2.1 d.2.2.1) pk12q nm args h)
theorem ev12q (k : Nat) (d : AD as12q) : evF E12q A12q k 1000 0 Proofs.Try.f87 (absArgs as12q d).1 (absArgs as12q d).2 (outM rs12q up12q) = acct_Is k d.1 d.2.1 d.2.2.1 := by
  obtain ⟨_, _, _, _⟩ := d
  kernel_rfl
theorem Ro12q : EntryOK Proofs.Try.prog R12q := fun k _ _ _ _ _ hy =>
  entry_sound (unpack := up12q) (A := A12q) (k := k) (pre := 1000) (na := 0) (E := E12q) Eo12q El12q mixed_orders (f := 87) (fn := Proofs.Try.f87) (by kernel_rfl) (body_loops (loopsOK_none (by kernel_rfl))) (enters (fn := Proofs.Try.f87) (by kernel_rfl) (by kernel_rfl) (by kernel_rfl)) (fun _ => rfl) (ev12q k) hy
theorem Rl12q : EntryLocal R12q.2 := entry_local (S := fun k (d : AD as12q) => acct_Is k d.1 d.2.1 d.2.2.1)

/-! ### giro/lim.Is$1 -/
noncomputable def E13q : Env := ⟨Proofs.Try.prog, fun _ => false, sumsOf [R12q]⟩
def A13q : Notes := ⟨[], []⟩
theorem Eo13q : EnvOK E13q := ⟨eqOK_none, sumsOf_ok (List.forall_mem_cons.2 ⟨Ro12q, List.forall_mem_nil _⟩)⟩
theorem El13q : SumsLocal E13q.sums := sumsOf_local (List.forall_mem_cons.2 ⟨Rl12q, List.forall_mem_nil _⟩)
def as13q : List AS := [.agg [.int .i64, .int .i64, .int .i64]]
def rs13q : RS := .c (.bool)
def pk13q : Bool → RL rs13q.cells := fun x => (x, ())
def up13q : RL rs13q.cells → Bool := fun d => d.1
def R13q : Nat × Entry := (86, fun k nm args h => entry as13q rs13q (fun d => lim_Is_fn1 k d.1 d.2.1 d.2.2.1) pk13q nm args h)
theorem ev13q (k : Nat) (d : AD as13q) : evF E13q A13q k 1000 0 Proofs.Try.f86 (absArgs as13q d).1 (absArgs as13q d).2 (outM rs13q up13q) = lim_Is_fn1 k d.1 d.2.1 d.2.2.1 := by
  obtain ⟨_, _, _, _⟩ := d
  kernel_rfl
theorem Ro13q : EntryOK Proofs.Try.prog R13q := fun k _ _ _ _ _ hy =>
  entry_sound (unpack := up13q) (A := A13q) (k := k) (pre := 1000) (na := 0) (E := E13q) Eo13q El13q mixed_orders (f := 86) (fn := Proofs.Try.f86) (by kernel_rfl) (body_loops (loopsOK_none (by kernel_rfl))) (enters (fn := Proofs.Try.f86) (by kernel_rfl) (by kernel_rfl) (by kernel_rfl)) (fun _ => rfl) (ev13q k) hy
theorem Rl13q : EntryLocal R13q.2 := entry_local (S := fun k (d : AD as13q) => lim_Is_fn1 k d.1 d.2.1 d.2.2.1)

/-! ### slices.IndexFunc[[]giro/api.Acct,giro/api.Acct] -/
noncomputable def E14q : Env := ⟨Proofs.Try.prog, fun _ => false, sumsOf [R13q]⟩
def I14_0q : Spec := ⟨[(0, .c (.dat false y3q)), (1, .c (.lit (.fn 86 []))), (7, .c (.int .i64)), (8, .c (.int .i64))], [], []⟩
def X0_14_0q : Spec := ⟨[], [], []⟩
def X1_14_0q : Spec := ⟨[(4, .c (.int .i64))], [], []⟩
def O14_0q : List (Ex × Spec) := [(.exit 0, X0_14_0q), (.ret, X1_14_0q)]
abbrev Z14_0q : Type := Unit ⊕ Int
def c14_0q (f : List K2q → Int → Int → Option Z14_0q) (d : I14_0q.den) : Option Z14_0q := f d.1.1.1 d.1.2.2.1.1 d.1.2.2.2.1.1
def T14_0q : OutD O14_0q → Z14_0q
 | .inl d => .inl ()
 | .inr d => .inr d.1.1.1
def e14_0q (base : Nat) (x : Z14_0q) (R : Type) (K : Ex → St → Option R) : Option R := match x with
 | .inl x => K (.exit 0) (stOf base X0_14_0q ((), ()))
 | .inr x => K .ret (stOf base X1_14_0q (((x, ()), ()), ()))
def L14_0q : LoopSum := ⟨I14_0q, O14_0q, Z14_0q, fun k d => c14_0q (slices_IndexFunc_Acct__lim_Is_fn1_L0 k k) d, e14_0q⟩
def A14q : Notes := ⟨[], [(2, L14_0q)]⟩
theorem Eo14q : EnvOK E14q := ⟨eqOK_none, sumsOf_ok (List.forall_mem_cons.2 ⟨Ro13q, List.forall_mem_nil _⟩)⟩
theorem El14q : SumsLocal E14q.sums := sumsOf_local (List.forall_mem_cons.2 ⟨Rl13q, List.forall_mem_nil _⟩)
theorem st14_0q (k : Nat) (rec : List K2q → Int → Int → Option Z14_0q) (d : I14_0q.den) : c14_0q (slices_IndexFunc_Acct__lim_Is_fn1_L0b k rec) d = evC E14q A14q k 1000 0 19 (loopAt (bodyOf Proofs.Try.f110) 0) (stOf (1000 + loopBase) I14_0q d) (roundK 1000 I14_0q O14_0q T14_0q (c14_0q rec)) := by
  obtain ⟨⟨⟨_, _⟩, _, ⟨_, _⟩, ⟨_, _⟩, _⟩, _⟩ := d
  kernel_rfl
theorem lk14_0q : LoopOK Proofs.Try.prog 1000 0 19 (loopAt (bodyOf Proofs.Try.f110) 0) L14_0q :=
  loop_sound (A := A14q) (inS := I14_0q) (outs := O14_0q) Eo14q El14q mixed_orders (loopsOK_none (by kernel_rfl)) T14_0q e14_0q (by intro o R K; rcases o with o | o <;> rfl) (fun k n d => c14_0q (slices_IndexFunc_Acct__lim_Is_fn1_L0 k n) d) (fun _ _ => rfl) (fun k n d => st14_0q k (slices_IndexFunc_Acct__lim_Is_fn1_L0 k n) d)
def as14q : List AS := [.c (.dat false y3q), .c (.fn 86)]
def rs14q : RS := .c (.int .i64)
def pk14q : Int → RL rs14q.cells := fun x => (x, ())
def up14q : RL rs14q.cells → Int := fun d => d.1
def R14q : Nat × Entry := (110, fun k nm args h => entry as14q rs14q (fun d => slices_IndexFunc_Acct__lim_Is_fn1 k d.1) pk14q nm args h)
theorem ev14q (k : Nat) (d : AD as14q) : evF E14q A14q k 1000 0 Proofs.Try.f110 (absArgs as14q d).1 (absArgs as14q d).2 (outM rs14q up14q) = slices_IndexFunc_Acct__lim_Is_fn1 k d.1 := by
  obtain ⟨_, _, _⟩ := d
  kernel_rfl
theorem Ro14q : EntryOK Proofs.Try.prog R14q := fun k _ _ _ _ _ hy =>
  entry_sound (unpack := up14q) (A := A14q) (k := k) (pre := 1000) (na := 0) (E := E14q) Eo14q El14q mixed_orders (f := 110) (fn := Proofs.Try.f110) (by kernel_rfl) (body_loops (loopsOK_of (n := 1) (by kernel_rfl) fun i hi => match i, hi with | 0, _ => ⟨L14_0q, by kernel_rfl, lk14_0q⟩ | i + 1, hi => absurd hi (by omega))) (enters (fn := Proofs.Try.f110) (by kernel_rfl) (by kernel_rfl) (by kernel_rfl)) (fun _ => rfl) (ev14q k) hy
theorem Rl14q : EntryLocal R14q.2 := entry_local (S := fun k (d : AD as14q) => slices_IndexFunc_Acct__lim_Is_fn1 k d.1)

/-! ### slices.ContainsFunc[[]giro/api.Acct,giro/api.Acct] -/
noncomputable def E15q : Env := ⟨Proofs.Try.prog, fun _ => false, sumsOf [R14q]⟩
def A15q : Notes := ⟨[], []⟩
theorem Eo15q : EnvOK E15q := ⟨eqOK_none, sumsOf_ok (List.forall_mem_cons.2 ⟨Ro14q, List.forall_mem_nil _⟩)⟩
theorem El15q : SumsLocal E15q.sums := sumsOf_local (List.forall_mem_cons.2 ⟨Rl14q, List.forall_mem_nil _⟩)
def as15q : List AS := [.c (.dat false y3q), .c (.fn 86)]
def rs15q : RS := .c (.bool)
def pk15q : Bool → RL rs15q.cells := fun x => (x, ())
def up15q : RL rs15q.cells → Bool := fun d => d.1
def R15q : Nat × Entry := (88, fun k nm args h => entry as15q rs15q (fun d => slices_ContainsFunc_Acct__lim_Is_fn1 k d.1) pk15q nm args h)
theorem ev15q (k : Nat) (d : AD as15q) : evF E15q A15q k 1000 0 Proofs.Try.f88 (absArgs as15q d).1 (absArgs as15q d).2 (outM rs15q up15q) = slices_ContainsFunc_Acct__lim_Is_fn1 k d.1 := by
  obtain ⟨_, _, _⟩ := d
  kernel_rfl
theorem Ro15q : EntryOK Proofs.Try.prog R15q := fun k _ _ _ _ _ hy =>
  entry_sound (unpack := up15q) (A := A15q) (k := k) (pre := 1000) (na := 0) (E := E15q) Eo15q El15q mixed_orders (f := 88) (fn := Proofs.Try.f88) (by kernel_rfl) (body_loops (loopsOK_none (by kernel_rfl))) (enters (fn := Proofs.Try.f88) (by kernel_rfl) (by kernel_rfl) (by kernel_rfl)) (fun _ => rfl) (ev15q k) hy
theorem Rl15q : EntryLocal R15q.2 := entry_local (S := fun k (d : AD as15q) => slices_ContainsFunc_Acct__lim_Is_fn1 k d.1)

/-! ### giro/lim.isLimit -/
noncomputable def E16q : Env := ⟨Proofs.Try.prog, fun _ => false, sumsOf []⟩
def A16q : Notes := ⟨[], []⟩
theorem Eo16q : EnvOK E16q := ⟨eqOK_none, sumsOf_ok (List.forall_mem_nil _)⟩
theorem El16q : SumsLocal E16q.sums := sumsOf_local (List.forall_mem_nil _)
def as16q : List AS := [.c (.int .i64)]
def rs16q : RS := .c (.bool)
def pk16q : Bool → RL rs16q.cells := fun x => (x, ())
def up16q : RL rs16q.cells → Bool := fun d => d.1
def R16q : Nat × Entry := (90, fun k nm args h => entry as16q rs16q (fun d => lim_isLimit k d.1) pk16q nm args h)
theorem ev16q (k : Nat) (d : AD as16q) : evF E16q A16q k 1000 0 Proofs.Try.f90 (absArgs as16q d).1 (absArgs as16q d).2 (outM rs16q up16q) = lim_isLimit k d.1 := by
  obtain ⟨_, _⟩ := d
  kernel_rfl
theorem Ro16q : EntryOK Proofs.Try.prog R16q := fun k _ _ _ _ _ hy =>
  entry_sound (unpack := up16q) (A := A16q) (k := k) (pre := 1000) (na := 0) (E := E16q) Eo16q El16q mixed_orders (f := 90) (fn := Proofs.Try.f90) (by kernel_rfl) (body_loops (loopsOK_none (by kernel_rfl))) (enters (fn := Proofs.Try.f90) (by kernel_rfl) (by kernel_rfl) (by kernel_rfl)) (fun _ => rfl) (ev16q k) hy
theorem Rl16q : EntryLocal R16q.2 := entry_local (S := fun k (d : AD as16q) => lim_isLimit k d.1)

/-! ### giro/lim.isRow$1 -/
noncomputable def E17q : Env := ⟨Proofs.Try.prog, fun _ => false, sumsOf [R16q]⟩
def A17q : Notes := ⟨[], []⟩
theorem Eo17q : EnvOK E17q := ⟨eqOK_none, sumsOf_ok (List.forall_mem_cons.2 ⟨Ro16q, List.forall_mem_nil _⟩)⟩
theorem El17q : SumsLocal E17q.sums := sumsOf_local (List.forall_mem_cons.2 ⟨Rl16q, List.forall_mem_nil _⟩)
def as17q : List AS := [.c (.int .i64), .ptr [.fn 90]]
def rs17q : RS := .c (.bool)
def pk17q : Bool → RL rs17q.cells := fun x => (x, ())
def up17q : RL rs17q.cells → Bool := fun d => d.1
def R17q : Nat × Entry := (112, fun k nm args h => entry as17q rs17q (fun d => lim_isRow_fn1__lim_isLimit k d.1) pk17q nm args h)
theorem ev17q (k : Nat) (d : AD as17q) : evF E17q A17q k 1000 0 Proofs.Try.f112 (absArgs as17q d).1 (absArgs as17q d).2 (outM rs17q up17q) = lim_isRow_fn1__lim_isLimit k d.1 := by
  obtain ⟨_, _, _⟩ := d
  kernel_rfl
theorem Ro17q : EntryOK Proofs.Try.prog R17q := fun k _ _ _ _ _ hy =>
  entry_sound (unpack := up17q) (A := A17q) (k := k) (pre := 1000) (na := 0) (E := E17q) Eo17q El17q mixed_orders (f := 112) (fn := Proofs.Try.f112) (by kernel_rfl) (body_loops (loopsOK_none (by kernel_rfl))) (enters (fn := Proofs.Try.f112) (by kernel_rfl) (by kernel_rfl) (by kernel_rfl)) (fun _ => rfl) (ev17q k) hy
theorem Rl17q : EntryLocal R17q.2 := entry_local (S := fun k (d : AD as17q) => lim_isRow_fn1__lim_isLimit k d.1)

/-! ### slices.IndexFunc[[]int64,int64] -/
noncomputable def E18q : Env := ⟨Proofs.Try.prog, fun _ => false, sumsOf [R17q]⟩
def I18_0q : Spec := ⟨[(0, .c (.dat false (.int .i64))), (1, .c (.lit (.fn 112 [1001000]))), (7, .c (.int .i64)), (8, .c (.int .i64))], [.robox [.lit (.fn 90 [])]], []⟩
def X0_18_0q : Spec := ⟨[], [], []⟩
def X1_18_0q : Spec := ⟨[(4, .c (.int .i64))], [], []⟩
def O18_0q : List (Ex × Spec) := [(.exit 0, X0_18_0q), (.ret, X1_18_0q)]
abbrev Z18_0q : Type := Unit ⊕ Int
def c18_0q (f : List Int → Int → Int → Option Z18_0q) (d : I18_0q.den) : Option Z18_0q := f d.1.1.1 d.1.2.2.1.1 d.1.2.2.2.1.1
def T18_0q : OutD O18_0q → Z18_0q
 | .inl d => .inl ()
 | .inr d => .inr d.1.1.1
def e18_0q (base : Nat) (x : Z18_0q) (R : Type) (K : Ex → St → Option R) : Option R := match x with
 | .inl x => K (.exit 0) (stOf base X0_18_0q ((), ()))
 | .inr x => K .ret (stOf base X1_18_0q (((x, ()), ()), ()))
def L18_0q : LoopSum := ⟨I18_0q, O18_0q, Z18_0q, fun k d => c18_0q (slices_IndexFunc_int64__lim_isRow_fn1__lim_isLimit_L0 k k) d, e18_0q⟩
def A18q : Notes := ⟨[], [(2, L18_0q)]⟩
theorem Eo18q : EnvOK E18q := ⟨eqOK_none, sumsOf_ok (List.forall_mem_cons.2 ⟨Ro17q, List.forall_mem_nil _⟩)⟩
theorem El18q : SumsLocal E18q.sums := sumsOf_local (List.forall_mem_cons.2 ⟨Rl17q, List.forall_mem_nil _⟩)
theorem st18_0q (k : Nat) (rec : List Int → Int → Int → Option Z18_0q) (d : I18_0q.den) : c18_0q (slices_IndexFunc_int64__lim_isRow_fn1__lim_isLimit_L0b k rec) d = evC E18q A18q k 1000 0 19 (loopAt (bodyOf Proofs.Try.f129) 0) (stOf (1000 + loopBase) I18_0q d) (roundK 1000 I18_0q O18_0q T18_0q (c18_0q rec)) := by
  obtain ⟨⟨⟨_, _⟩, _, ⟨_, _⟩, ⟨_, _⟩, _⟩, ⟨_, _⟩⟩ := d
  kernel_rfl
theorem lk18_0q : LoopOK Proofs.Try.prog 1000 0 19 (loopAt (bodyOf Proofs.Try.f129) 0) L18_0q :=
  loop_sound (A := A18q) (inS := I18_0q) (outs := O18_0q) Eo18q El18q mixed_orders (loopsOK_none (by kernel_rfl)) T18_0q e18_0q (by intro o R K; rcases o with o | o <;> rfl) (fun k n d => c18_0q (slices_IndexFunc_int64__lim_isRow_fn1__lim_isLimit_L0 k n) d) (fun _ _ => rfl) (fun k n d => st18_0q k (slices_IndexFunc_int64__lim_isRow_fn1__lim_isLimit_L0 k n) d)
def as18q : List AS := [.c (.dat false (.int .i64)), .fn 112 [[.fn 90]]]
def rs18q : RS := .c (.int .i64)
def pk18q : Int → RL rs18q.cells := fun x => (x, ())
def up18q : RL rs18q.cells → Int := fun d => d.1
def R18q : Nat × Entry := (129, fun k nm args h => entry as18q rs18q (fun d => slices_IndexFunc_int64__lim_isRow_fn1__lim_isLimit k d.1) pk18q nm args h)
theorem ev18q (k : Nat) (d : AD as18q) : evF E18q A18q k 1000 0 Proofs.Try.f129 (absArgs as18q d).1 (absArgs as18q d).2 (outM rs18q up18q) = slices_IndexFunc_int64__lim_isRow_fn1__lim_isLimit k d.1 := by
  obtain ⟨_, _, _⟩ := d
  kernel_rfl
theorem Ro18q : EntryOK Proofs.Try.prog R18q := fun k _ _ _ _ _ hy =>
  entry_sound (unpack := up18q) (A := A18q) (k := k) (pre := 1000) (na := 0) (E := E18q) Eo18q El18q mixed_orders (f := 129) (fn := Proofs.Try.f129) (by kernel_rfl) (body_loops (loopsOK_of (n := 1) (by kernel_rfl) fun i hi => match i, hi with | 0, _ => ⟨L18_0q, by kernel_rfl, lk18_0q⟩ | i + 1, hi => absurd hi (by omega))) (enters (fn := Proofs.Try.f129) (by kernel_rfl) (by kernel_rfl) (by kernel_rfl)) (fun _ => rfl) (ev18q k) hy
theorem Rl18q : EntryLocal R18q.2 := entry_local (S := fun k (d : AD as18q) => slices_IndexFunc_int64__lim_isRow_fn1__lim_isLimit k d.1)

/-! ### slices.ContainsFunc[[]int64,int64] -/
noncomputable def E19q : Env := ⟨Proofs.Try.prog, fun _ => false, sumsOf [R18q]⟩
def A19q : Notes := ⟨[], []⟩
theorem Eo19q : EnvOK E19q := ⟨eqOK_none, sumsOf_ok (List.forall_mem_cons.2 ⟨Ro18q, List.forall_mem_nil _⟩)⟩
theorem El19q : SumsLocal E19q.sums := sumsOf_local (List.forall_mem_cons.2 ⟨Rl18q, List.forall_mem_nil _⟩)
def as19q : List AS := [.c (.dat false (.int .i64)), .fn 112 [[.fn 90]]]
def rs19q : RS := .c (.bool)
def pk19q : Bool → RL rs19q.cells := fun x => (x, ())
def up19q : RL rs19q.cells → Bool := fun d => d.1
def R19q : Nat × Entry := (111, fun k nm args h => entry as19q rs19q (fun d => slices_ContainsFunc_int64__lim_isRow_fn1__lim_isLimit k d.1) pk19q nm args h)
theorem ev19q (k : Nat) (d : AD as19q) : evF E19q A19q k 1000 0 Proofs.Try.f111 (absArgs as19q d).1 (absArgs as19q d).2 (outM rs19q up19q) = slices_ContainsFunc_int64__lim_isRow_fn1__lim_isLimit k d.1 := by
  obtain ⟨_, _, _⟩ := d
  kernel_rfl
theorem Ro19q : EntryOK Proofs.Try.prog R19q := fun k _ _ _ _ _ hy =>
  entry_sound (unpack := up19q) (A := A19q) (k := k) (pre := 1000) (na := 0) (E := E19q) Eo19q El19q mixed_orders (f := 111) (fn := Proofs.Try.f111) (by kernel_rfl) (body_loops (loopsOK_none (by kernel_rfl))) (enters (fn := Proofs.Try.f111) (by kernel_rfl) (by kernel_rfl) (by kernel_rfl)) (fun _ => rfl) (ev19q k) hy
theorem Rl19q : EntryLocal R19q.2 := entry_local (S := fun k (d : AD as19q) => slices_ContainsFunc_int64__lim_isRow_fn1__lim_isLimit k d.1)

/-! ### giro/lim.isRow -/
noncomputable def E20q : Env := ⟨Proofs.Try.prog, fun _ => false, sumsOf [R19q]⟩
def A20q : Notes := ⟨[], []⟩
theorem Eo20q : EnvOK E20q := ⟨eqOK_none, sumsOf_ok (List.forall_mem_cons.2 ⟨Ro19q, List.forall_mem_nil _⟩)⟩
theorem El20q : SumsLocal E20q.sums := sumsOf_local (List.forall_mem_cons.2 ⟨Rl19q, List.forall_mem_nil _⟩)
def as20q : List AS := [.c (.dat false (.int .i64)), .c (.int .i64), .c (.fn 90)]
def rs20q : RS := .c (.bool)
def pk20q : Bool → RL rs20q.cells := fun x => (x, ())
def up20q : RL rs20q.cells → Bool := fun d => d.1
def R20q : Nat × Entry := (91, fun k nm args h => entry as20q rs20q (fun d => lim_isRow__lim_isLimit k d.1 d.2.1) pk20q nm args h)
theorem ev20q (k : Nat) (d : AD as20q) : evF E20q A20q k 1000 0 Proofs.Try.f91 (absArgs as20q d).1 (absArgs as20q d).2 (outM rs20q up20q) = lim_isRow__lim_isLimit k d.1 d.2.1 := by
  obtain ⟨_, _, _, _⟩ := d
  kernel_rfl
theorem Ro20q : EntryOK Proofs.Try.prog R20q := fun k _ _ _ _ _ hy =>
  entry_sound (unpack := up20q) (A := A20q) (k := k) (pre := 1000) (na := 0) (E := E20q) Eo20q El20q mixed_orders (f := 91) (fn := Proofs.Try.f91) (by kernel_rfl) (body_loops (loopsOK_none (by kernel_rfl))) (enters (fn := Proofs.Try.f91) (by kernel_rfl) (by kernel_rfl) (by kernel_rfl)) (fun _ => rfl) (ev20q k) hy
theorem Rl20q : EntryLocal R20q.2 := entry_local (S := fun k (d : AD as20q) => lim_isRow__lim_isLimit k d.1 d.2.1)

/-! ### giro/lim.isSquare -/
noncomputable def E21q : Env := ⟨Proofs.Try.prog, fun _ => false, sumsOf [R20q]⟩
def I21_0q : Spec := ⟨[(1, .c (.int .i64)), (2, .c (.lit (.fn 90 []))), (13, .c (.dat false (.sl (.int .i64)))), (14, .c (.int .i64)), (15, .c (.int .i64))], [], []⟩
def X0_21_0q : Spec := ⟨[], [], []⟩
def X1_21_0q : Spec := ⟨[(6, .c (.bool))], [], []⟩
def O21_0q : List (Ex × Spec) := [(.exit 0, X0_21_0q), (.ret, X1_21_0q)]
abbrev Z21_0q : Type := Unit ⊕ Bool
def c21_0q (f : Int → List (List Int) → Int → Int → Option Z21_0q) (d : I21_0q.den) : Option Z21_0q := f d.1.1.1 d.1.2.2.1.1 d.1.2.2.2.1.1 d.1.2.2.2.2.1.1
def T21_0q : OutD O21_0q → Z21_0q
 | .inl d => .inl ()
 | .inr d => .inr d.1.1.1
def e21_0q (base : Nat) (x : Z21_0q) (R : Type) (K : Ex → St → Option R) : Option R := match x with
 | .inl x => K (.exit 0) (stOf base X0_21_0q ((), ()))
 | .inr x => K .ret (stOf base X1_21_0q (((x, ()), ()), ()))
def L21_0q : LoopSum := ⟨I21_0q, O21_0q, Z21_0q, fun k d => c21_0q (lim_isSquare__lim_isLimit_L0 k k) d, e21_0q⟩
def A21q : Notes := ⟨[], [(4, L21_0q)]⟩
theorem Eo21q : EnvOK E21q := ⟨eqOK_none, sumsOf_ok (List.forall_mem_cons.2 ⟨Ro20q, List.forall_mem_nil _⟩)⟩
theorem El21q : SumsLocal E21q.sums := sumsOf_local (List.forall_mem_cons.2 ⟨Rl20q, List.forall_mem_nil _⟩)
theorem st21_0q (k : Nat) (rec : Int → List (List Int) → Int → Int → Option Z21_0q) (d : I21_0q.den) : c21_0q (lim_isSquare__lim_isLimit_L0b k rec) d = evC E21q A21q k 1000 0 25 (loopAt (bodyOf Proofs.Try.f89) 0) (stOf (1000 + loopBase) I21_0q d) (roundK 1000 I21_0q O21_0q T21_0q (c21_0q rec)) := by
  obtain ⟨⟨⟨_, _⟩, _, ⟨_, _⟩, ⟨_, _⟩, ⟨_, _⟩, _⟩, _⟩ := d
  kernel_rfl
theorem lk21_0q : LoopOK Proofs.Try.prog 1000 0 25 (loopAt (bodyOf Proofs.Try.f89) 0) L21_0q :=
  loop_sound (A := A21q) (inS := I21_0q) (outs := O21_0q) Eo21q El21q mixed_orders (loopsOK_none (by kernel_rfl)) T21_0q e21_0q (by intro o R K; rcases o with o | o <;> rfl) (fun k n d => c21_0q (lim_isSquare__lim_isLimit_L0 k n) d) (fun _ _ => rfl) (fun k n d => st21_0q k (lim_isSquare__lim_isLimit_L0 k n) d)
def as21q : List AS := [.c (.dat false (.sl (.int .i64))), .c (.int .i64), .c (.fn 90)]
def rs21q : RS := .c (.bool)
def pk21q : Bool → RL rs21q.cells := fun x => (x, ())
def up21q : RL rs21q.cells → Bool := fun d => d.1
def R21q : Nat × Entry := (89, fun k nm args h => entry as21q rs21q (fun d => lim_isSquare__lim_isLimit k d.1 d.2.1) pk21q nm args h)
theorem ev21q (k : Nat) (d : AD as21q) : evF E21q A21q k 1000 0 Proofs.Try.f89 (absArgs as21q d).1 (absArgs as21q d).2 (outM rs21q up21q) = lim_isSquare__lim_isLimit k d.1 d.2.1 := by
  obtain ⟨_, _, _, _⟩ := d
  kernel_rfl
theorem Ro21q : EntryOK Proofs.Try.prog R21q := fun k _ _ _ _ _ hy =>
  entry_sound (unpack := up21q) (A := A21q) (k := k) (pre := 1000) (na := 0) (E := E21q) Eo21q El21q mixed_orders (f := 89) (fn := Proofs.Try.f89) (by kernel_rfl) (body_loops (loopsOK_of (n := 1) (by kernel_rfl) fun i hi => match i, hi with | 0, _ => ⟨L21_0q, by kernel_rfl, lk21_0q⟩ | i + 1, hi => absurd hi (by omega))) (enters (fn := Proofs.Try.f89) (by kernel_rfl) (by kernel_rfl) (by kernel_rfl)) (fun _ => rfl) (ev21q k) hy
theorem Rl21q : EntryLocal R21q.2 := entry_local (S := fun k (d : AD as21q) => lim_isSquare__lim_isLimit k d.1 d.2.1)

/-! ### giro/lim.isNet -/
noncomputable def E22q : Env := ⟨Proofs.Try.prog, fun _ => false, sumsOf []⟩
def A22q : Notes := ⟨[], []⟩
theorem Eo22q : EnvOK E22q := ⟨eqOK_none, sumsOf_ok (List.forall_mem_nil _)⟩
theorem El22q : SumsLocal E22q.sums := sumsOf_local (List.forall_mem_nil _)
def as22q : List AS := [.c (.int .i64)]
def rs22q : RS := .c (.bool)
def pk22q : Bool → RL rs22q.cells := fun x => (x, ())
def up22q : RL rs22q.cells → Bool := fun d => d.1
def R22q : Nat × Entry := (92, fun k nm args h => entry as22q rs22q (fun d => lim_isNet k d.1) pk22q nm args h)
theorem ev22q (k : Nat) (d : AD as22q) : evF E22q A22q k 1000 0 Proofs.Try.f92 (absArgs as22q d).1 (absArgs as22q d).2 (outM rs22q up22q) = lim_isNet k d.1 := by
  obtain ⟨_, _⟩ := d
  kernel_rfl
theorem Ro22q : EntryOK Proofs.Try.prog R22q := fun k _ _ _ _ _ hy =>
  entry_sound (unpack := up22q) (A := A22q) (k := k) (pre := 1000) (na := 0) (E := E22q) Eo22q El22q mixed_orders (f := 92) (fn := Proofs.Try.f92) (by kernel_rfl) (body_loops (loopsOK_none (by kernel_rfl))) (enters (fn := Proofs.Try.f92) (by kernel_rfl) (by kernel_rfl) (by kernel_rfl)) (fun _ => rfl) (ev22q k) hy
theorem Rl22q : EntryLocal R22q.2 := entry_local (S := fun k (d : AD as22q) => lim_isNet k d.1)

/-! ### giro/lim.isRow$1 -/
noncomputable def E23q : Env := ⟨Proofs.Try.prog, fun _ => false, sumsOf [R22q]⟩
def A23q : Notes := ⟨[], []⟩
theorem Eo23q : EnvOK E23q := ⟨eqOK_none, sumsOf_ok (List.forall_mem_cons.2 ⟨Ro22q, List.forall_mem_nil _⟩)⟩
theorem El23q : SumsLocal E23q.sums := sumsOf_local (List.forall_mem_cons.2 ⟨Rl22q, List.forall_mem_nil _⟩)
def as23q : List AS := [.c (.int .i64), .ptr [.fn 92]]
def rs23q : RS := .c (.bool)
def pk23q : Bool → RL rs23q.cells := fun x => (x, ())
def up23q : RL rs23q.cells → Bool := fun d => d.1
def R23q : Nat × Entry := (112, fun k nm args h => entry as23q rs23q (fun d => lim_isRow_fn1__lim_isNet k d.1) pk23q nm args h)
theorem ev23q (k : Nat) (d : AD as23q) : evF E23q A23q k 1000 0 Proofs.Try.f112 (absArgs as23q d).1 (absArgs as23q d).2 (outM rs23q up23q) = lim_isRow_fn1__lim_isNet k d.1 := by
  obtain ⟨_, _, _⟩ := d
  kernel_rfl
theorem Ro23q : EntryOK Proofs.Try.prog R23q := fun k _ _ _ _ _ hy =>
  entry_sound (unpack := up23q) (A := A23q) (k := k) (pre := 1000) (na := 0) (E := E23q) Eo23q El23q mixed_orders (f := 112) (fn := Proofs.Try.f112) (by kernel_rfl) (body_loops (loopsOK_none (by kernel_rfl))) (enters (fn := Proofs.Try.f112) (by kernel_rfl) (by kernel_rfl) (by kernel_rfl)) (fun _ => rfl) (ev23q k) hy
theorem Rl23q : EntryLocal R23q.2 := entry_local (S := fun k (d : AD as23q) => lim_isRow_fn1__lim_isNet k d.1)

/-! ### slices.IndexFunc[[]int64,int64] -/
noncomputable def E24q : Env := ⟨Proofs.Try.prog, fun _ => false, sumsOf [R23q]⟩
def I24_0q : Spec := ⟨[(0, .c (.dat false (.int .i64))), (1, .c (.lit (.fn 112 [1001000]))), (7, .c (.int .i64)), (8, .c (.int .i64))], [.robox [.lit (.fn 92 [])]], []⟩
def X0_24_0q : Spec := ⟨[], [], []⟩
def X1_24_0q : Spec := ⟨[(4, .c (.int .i64))], [], []⟩
def O24_0q : List (Ex × Spec) := [(.exit 0, X0_24_0q), (.ret, X1_24_0q)]
abbrev Z24_0q : Type := Unit ⊕ Int
def c24_0q (f : List Int → Int → Int → Option Z24_0q) (d : I24_0q.den) : Option Z24_0q := f d.1.1.1 d.1.2.2.1.1 d.1.2.2.2.1.1
def T24_0q : OutD O24_0q → Z24_0q
 | .inl d => .inl ()
 | .inr d => .inr d.1.1.1
def e24_0q (base : Nat) (x : Z24_0q) (R : Type) (K : Ex → St → Option R) : Option R := match x with
 | .inl x => K (.exit 0) (stOf base X0_24_0q ((), ()))
 | .inr x => K .ret (stOf base X1_24_0q (((x, ()), ()), ()))
def L24_0q : LoopSum := ⟨I24_0q, O24_0q, Z24_0q, fun k d => c24_0q (slices_IndexFunc_int64__lim_isRow_fn1__lim_isNet_L0 k k) d, e24_0q⟩
def A24q : Notes := ⟨[], [(2, L24_0q)]⟩
theorem Eo24q : EnvOK E24q := ⟨eqOK_none, sumsOf_ok (List.forall_mem_cons.2 ⟨Ro23q, List.forall_mem_nil _⟩)⟩
theorem El24q : SumsLocal E24q.sums := sumsOf_local (List.forall_mem_cons.2 ⟨Rl23q, List.forall_mem_nil _⟩)
theorem st24_0q (k : Nat) (rec : List Int → Int → Int → Option Z24_0q) (d : I24_0q.den) : c24_0q (slices_IndexFunc_int64__lim_isRow_fn1__lim_isNet_L0b k rec) d = evC E24q A24q k 1000 0 19 (loopAt (bodyOf Proofs.Try.f129) 0) (stOf (1000 + loopBase) I24_0q d) (roundK 1000 I24_0q O24_0q T24_0q (c24_0q rec)) := by
  obtain ⟨⟨⟨_, _⟩, _, ⟨_, _⟩, ⟨_, _⟩, _⟩, ⟨_, _⟩⟩ := d
  kernel_rfl
theorem lk24_0q : LoopOK Proofs.Try.prog 1000 0 19 (loopAt (bodyOf Proofs.Try.f129) 0) L24_0q :=
  loop_sound (A := A24q) (inS := I24_0q) (outs := O24_0q) Eo24q El24q mixed_orders (loopsOK_none (by kernel_rfl)) T24_0q e24_0q (by intro o R K; rcases o with o | o <;> rfl) (fun k n d => c24_0q (slices_IndexFunc_int64__lim_isRow_fn1__lim_isNet_L0 k n) d) (fun _ _ => rfl) (fun k n d => st24_0q k (slices_IndexFunc_int64__lim_isRow_fn1__lim_isNet_L0 k n) d)
def as24q : List AS := [.c (.dat false (.int .i64)), .fn 112 [[.fn 92]]]
def rs24q : RS := .c (.int .i64)
def pk24q : Int → RL rs24q.cells := fun x => (x, ())
def up24q : RL rs24q.cells → Int := fun d => d.1
def R24q : Nat × Entry := (129, fun k nm args h => entry as24q rs24q (fun d => slices_IndexFunc_int64__lim_isRow_fn1__lim_isNet k d.1) pk24q nm args h)
theorem ev24q (k : Nat) (d : AD as24q) : evF E24q A24q k 1000 0 Proofs.Try.f129 (absArgs as24q d).1 (absArgs as24q d).2 (outM rs24q up24q) = slices_IndexFunc_int64__lim_isRow_fn1__lim_isNet k d.1 := by
  obtain ⟨_, _, _⟩ := d
  kernel_rfl
theorem Ro24q : EntryOK Proofs.Try.prog R24q := fun k _ _ _ _ _ hy =>
  entry_sound (unpack := up24q) (A := A24q) (k := k) (pre := 1000) (na := 0) (E := E24q) Eo24q El24q mixed_orders (f := 129) (fn := Proofs.Try.f129) (by kernel_rfl) (body_loops (loopsOK_of (n := 1) (by kernel_rfl) fun i hi => match i, hi with | 0, _ => ⟨L24_0q, by kernel_rfl, lk24_0q⟩ | i + 1, hi => absurd hi (by omega))) (enters (fn := Proofs.Try.f129) (by kernel_rfl) (by kernel_rfl) (by kernel_rfl)) (fun _ => rfl) (ev24q k) hy
theorem Rl24q : EntryLocal R24q.2 := entry_local (S := fun k (d : AD as24q) => slices_IndexFunc_int64__lim_isRow_fn1__lim_isNet k d.1)

/-! ### slices.ContainsFunc[[]int64,int64] -/
noncomputable def E25q : Env := ⟨Proofs.Try.prog, fun _ => false, sumsOf [R24q]⟩
def A25q : Notes := ⟨[], []⟩
theorem Eo25q : EnvOK E25q := ⟨eqOK_none, sumsOf_ok (List.forall_mem_cons.2 ⟨Ro24q, List.forall_mem_nil _⟩)⟩
theorem El25q : SumsLocal E25q.sums := sumsOf_local (List.forall_mem_cons.2 ⟨Rl24q, List.forall_mem_nil _⟩)
def as25q : List AS := [.c (.dat false (.int .i64)), .fn 112 [[.fn 92]]]
def rs25q : RS := .c (.bool)
def pk25q : Bool → RL rs25q.cells := fun x => (x, ())
def up25q : RL rs25q.cells → Bool := fun d => d.1
def R25q : Nat × Entry := (111, fun k nm args h => entry as25q rs25q (fun d => slices_ContainsFunc_int64__lim_isRow_fn1__lim_isNet k d.1) pk25q nm args h)
theorem ev25q (k : Nat) (d : AD as25q) : evF E25q A25q k 1000 0 Proofs.Try.f111 (absArgs as25q d).1 (absArgs as25q d).2 (outM rs25q up25q) = slices_ContainsFunc_int64__lim_isRow_fn1__lim_isNet k d.1 := by
  obtain ⟨_, _, _⟩ := d
  kernel_rfl
theorem Ro25q : EntryOK Proofs.Try.prog R25q := fun k _ _ _ _ _ hy =>
  entry_sound (unpack := up25q) (A := A25q) (k := k) (pre := 1000) (na := 0) (E := E25q) Eo25q El25q mixed_orders (f := 111) (fn := Proofs.Try.f111) (by kernel_rfl) (body_loops (loopsOK_none (by kernel_rfl))) (enters (fn := Proofs.Try.f111) (by kernel_rfl) (by kernel_rfl) (by kernel_rfl)) (fun _ => rfl) (ev25q k) hy
theorem Rl25q : EntryLocal R25q.2 := entry_local (S := fun k (d : AD as25q) => slices_ContainsFunc_int64__lim_isRow_fn1__lim_isNet k d.1)

/-! ### giro/lim.isRow -/
noncomputable def E26q : Env := ⟨Proofs.Try.prog, fun _ => false, sumsOf [R25q]⟩
def A26q : Notes := ⟨[], []⟩
theorem Eo26q : EnvOK E26q := ⟨eqOK_none, sumsOf_ok (List.forall_mem_cons.2 ⟨Ro25q, List.forall_mem_nil _⟩)⟩
theorem El26q : SumsLocal E26q.sums := sumsOf_local (List.forall_mem_cons.2 ⟨Rl25q, List.forall_mem_nil _⟩)
def as26q : List AS := [.c (.dat false (.int .i64)), .c (.int .i64), .c (.fn 92)]
def rs26q : RS := .c (.bool)
def pk26q : Bool → RL rs26q.cells := fun x => (x, ())
def up26q : RL rs26q.cells → Bool := fun d => d.1
def R26q : Nat × Entry := (91, fun k nm args h => entry as26q rs26q (fun d => lim_isRow__lim_isNet k d.1 d.2.1) pk26q nm args h)
theorem ev26q (k : Nat) (d : AD as26q) : evF E26q A26q k 1000 0 Proofs.Try.f91 (absArgs as26q d).1 (absArgs as26q d).2 (outM rs26q up26q) = lim_isRow__lim_isNet k d.1 d.2.1 := by
  obtain ⟨_, _, _, _⟩ := d
  kernel_rfl
theorem Ro26q : EntryOK Proofs.Try.prog R26q := fun k _ _ _ _ _ hy =>
  entry_sound (unpack := up26q) (A := A26q) (k := k) (pre := 1000) (na := 0) (E := E26q) Eo26q El26q mixed_orders (f := 91) (fn := Proofs.Try.f91) (by kernel_rfl) (body_loops (loopsOK_none (by kernel_rfl))) (enters (fn := Proofs.Try.f91) (by kernel_rfl) (by kernel_rfl) (by kernel_rfl)) (fun _ => rfl) (ev26q k) hy
theorem Rl26q : EntryLocal R26q.2 := entry_local (S := fun k (d : AD as26q) => lim_isRow__lim_isNet k d.1 d.2.1)

/-! ### giro/lim.isSquare -/
noncomputable def E27q : Env := ⟨Proofs.Try.prog, fun _ => false, sumsOf [R26q]⟩
def I27_0q : Spec := ⟨[(1, .c (.int .i64)), (2, .c (.lit (.fn 92 []))), (13, .c (.dat false (.sl (.int .i64)))), (14, .c (.int .i64)), (15, .c (.int .i64))], [], []⟩
def X0_27_0q : Spec := ⟨[], [], []⟩
def X1_27_0q : Spec := ⟨[(6, .c (.bool))], [], []⟩
def O27_0q : List (Ex × Spec) := [(.exit 0, X0_27_0q), (.ret, X1_27_0q)]
abbrev Z27_0q : Type := Unit ⊕ Bool
def c27_0q (f : Int → List (List Int) → Int → Int → Option Z27_0q) (d : I27_0q.den) : Option Z27_0q := f d.1.1.1 d.1.2.2.1.1 d.1.2.2.2.1.1 d.1.2.2.2.2.1.1
def T27_0q : OutD O27_0q → Z27_0q
 | .inl d => .inl ()
 | .inr d => .inr d.1.1.1
def e27_0q (base : Nat) (x : Z27_0q) (R : Type) (K : Ex → St → Option R) : Option R := match x with
 | .inl x => K (.exit 0) (stOf base X0_27_0q ((), ()))
 | .inr x => K .ret (stOf base X1_27_0q (((x, ()), ()), ()))
def L27_0q : LoopSum := ⟨I27_0q, O27_0q, Z27_0q, fun k d => c27_0q (lim_isSquare__lim_isNet_L0 k k) d, e27_0q⟩
def A27q : Notes := ⟨[], [(4, L27_0q)]⟩
theorem Eo27q : EnvOK E27q := ⟨eqOK_none, sumsOf_ok (List.forall_mem_cons.2 ⟨Ro26q, List.forall_mem_nil _⟩)⟩
theorem El27q : SumsLocal E27q.sums := sumsOf_local (List.forall_mem_cons.2 ⟨Rl26q, List.forall_mem_nil _⟩)
theorem st27_0q (k : Nat) (rec : Int → List (List Int) → Int → Int → Option Z27_0q) (d : I27_0q.den) : c27_0q (lim_isSquare__lim_isNet_L0b k rec) d = evC E27q A27q k 1000 0 25 (loopAt (bodyOf Proofs.Try.f89) 0) (stOf (1000 + loopBase) I27_0q d) (roundK 1000 I27_0q O27_0q T27_0q (c27_0q rec)) := by
  obtain ⟨⟨⟨_, _⟩, _, ⟨_, _⟩, ⟨_, _⟩, ⟨_, _⟩, _⟩, _⟩ := d
  kernel_rfl
theorem lk27_0q : LoopOK Proofs.Try.prog 1000 0 25 (loopAt (bodyOf Proofs.Try.f89) 0) L27_0q :=
  loop_sound (A := A27q) (inS := I27_0q) (outs := O27_0q) Eo27q El27q mixed_orders (loopsOK_none (by kernel_rfl)) T27_0q e27_0q (by intro o R K; rcases o with o | o <;> rfl) (fun k n d => c27_0q (lim_isSquare__lim_isNet_L0 k n) d) (fun _ _ => rfl) (fun k n d => st27_0q k (lim_isSquare__lim_isNet_L0 k n) d)
def as27q : List AS := [.c (.dat false (.sl (.int .i64))), .c (.int .i64), .c (.fn 92)]
def rs27q : RS := .c (.bool)
def pk27q : Bool → RL rs27q.cells := fun x => (x, ())
def up27q : RL rs27q.cells → Bool := fun d => d.1
def R27q : Nat × Entry := (89, fun k nm args h => entry as27q rs27q (fun d => lim_isSquare__lim_isNet k d.1 d.2.1) pk27q nm args h)
theorem ev27q (k : Nat) (d : AD as27q) : evF E27q A27q k 1000 0 Proofs.Try.f89 (absArgs as27q d).1 (absArgs as27q d).2 (outM rs27q up27q) = lim_isSquare__lim_isNet k d.1 d.2.1 := by
  obtain ⟨_, _, _, _⟩ := d
  kernel_rfl
theorem Ro27q : EntryOK Proofs.Try.prog R27q := fun k _ _ _ _ _ hy =>
  entry_sound (unpack := up27q) (A := A27q) (k := k) (pre := 1000) (na := 0) (E := E27q) Eo27q El27q mixed_orders (f := 89) (fn := Proofs.Try.f89) (by kernel_rfl) (body_loops (loopsOK_of (n := 1) (by kernel_rfl) fun i hi => match i, hi with | 0, _ => ⟨L27_0q, by kernel_rfl, lk27_0q⟩ | i + 1, hi => absurd hi (by omega))) (enters (fn := Proofs.Try.f89) (by kernel_rfl) (by kernel_rfl) (by kernel_rfl)) (fun _ => rfl) (ev27q k) hy
theorem Rl27q : EntryLocal R27q.2 := entry_local (S := fun k (d : AD as27q) => lim_isSquare__lim_isNet k d.1 d.2.1)

/-! ### giro/lim.isTurned -/
noncomputable def E28q : Env := ⟨Proofs.Try.prog, fun _ => false, sumsOf []⟩
def I28_0q : Spec := ⟨[(0, .c (.dat false (.sl (.int .i64)))), (3, .c (.int .i64)), (7, .c (.dat false (.sl (.int .i64)))), (8, .c (.int .i64)), (9, .c (.int .i64)), (14, .c (.dat false (.int .i64))), (15, .c (.int .i64)), (16, .c (.int .i64))], [], []⟩
def X0_28_0q : Spec := ⟨[(0, .c (.dat false (.sl (.int .i64)))), (7, .c (.dat false (.sl (.int .i64)))), (8, .c (.int .i64)), (9, .c (.int .i64))], [], []⟩
def X1_28_0q : Spec := ⟨[(2, .c (.bool))], [], []⟩
def O28_0q : List (Ex × Spec) := [(.exit 2, X0_28_0q), (.ret, X1_28_0q)]
abbrev Z28_0q : Type := ((List (List Int)) × (List (List Int)) × Int × Int) ⊕ Bool
def c28_0q (f : List (List Int) → Int → List (List Int) → Int → Int → List Int → Int → Int → Option Z28_0q) (d : I28_0q.den) : Option Z28_0q := f d.1.1.1 d.1.2.1.1 d.1.2.2.1.1 d.1.2.2.2.1.1 d.1.2.2.2.2.1.1 d.1.2.2.2.2.2.1.1 d.1.2.2.2.2.2.2.1.1 d.1.2.2.2.2.2.2.2.1.1
def T28_0q : OutD O28_0q → Z28_0q
 | .inl d => .inl (d.1.1.1, d.1.2.1.1, d.1.2.2.1.1, d.1.2.2.2.1.1)
 | .inr d => .inr d.1.1.1
def e28_0q (base : Nat) (x : Z28_0q) (R : Type) (K : Ex → St → Option R) : Option R := match x with
 | .inl x => K (.exit 2) (stOf base X0_28_0q (((x.1, ()), (x.2.1, ()), (x.2.2.1, ()), (x.2.2.2, ()), ()), ()))
 | .inr x => K .ret (stOf base X1_28_0q (((x, ()), ()), ()))
def L28_0q : LoopSum := ⟨I28_0q, O28_0q, Z28_0q, fun k d => c28_0q (lim_isTurned_L1 k k) d, e28_0q⟩
def I28_1q : Spec := ⟨[(0, .c (.dat false (.sl (.int .i64)))), (7, .c (.dat false (.sl (.int .i64)))), (8, .c (.int .i64)), (9, .c (.int .i64))], [], []⟩
def X0_28_1q : Spec := ⟨[], [], []⟩
def X1_28_1q : Spec := ⟨[(2, .c (.bool))], [], []⟩
def O28_1q : List (Ex × Spec) := [(.exit 0, X0_28_1q), (.ret, X1_28_1q)]
abbrev Z28_1q : Type := Unit ⊕ Bool
def c28_1q (f : List (List Int) → List (List Int) → Int → Int → Option Z28_1q) (d : I28_1q.den) : Option Z28_1q := f d.1.1.1 d.1.2.1.1 d.1.2.2.1.1 d.1.2.2.2.1.1
def T28_1q : OutD O28_1q → Z28_1q
 | .inl d => .inl ()
 | .inr d => .inr d.1.1.1
def e28_1q (base : Nat) (x : Z28_1q) (R : Type) (K : Ex → St → Option R) : Option R := match x with
 | .inl x => K (.exit 0) (stOf base X0_28_1q ((), ()))
 | .inr x => K .ret (stOf base X1_28_1q (((x, ()), ()), ()))
def L28_1q : LoopSum := ⟨I28_1q, O28_1q, Z28_1q, fun k d => c28_1q (lim_isTurned_L0 k k) d, e28_1q⟩
def A28q : Notes := ⟨[], [(5, L28_0q), (2, L28_1q)]⟩
theorem Eo28q : EnvOK E28q := ⟨eqOK_none, sumsOf_ok (List.forall_mem_nil _)⟩
theorem El28q : SumsLocal E28q.sums := sumsOf_local (List.forall_mem_nil _)
theorem st28_0q (k : Nat) (rec : List (List Int) → Int → List (List Int) → Int → Int → List Int → Int → Int → Option Z28_0q) (d : I28_0q.den) : c28_0q (lim_isTurned_L1b k rec) d = evC E28q A28q k 1000 0 33 (loopAt (loopAt (bodyOf Proofs.Try.f93) 0) 0) (stOf (1000 + loopBase) I28_0q d) (roundK 1000 I28_0q O28_0q T28_0q (c28_0q rec)) := by
  obtain ⟨⟨⟨_, _⟩, ⟨_, _⟩, ⟨_, _⟩, ⟨_, _⟩, ⟨_, _⟩, ⟨_, _⟩, ⟨_, _⟩, ⟨_, _⟩, _⟩, _⟩ := d
  kernel_rfl
theorem lk28_0q : LoopOK Proofs.Try.prog 1000 0 33 (loopAt (loopAt (bodyOf Proofs.Try.f93) 0) 0) L28_0q :=
  loop_sound (A := A28q) (inS := I28_0q) (outs := O28_0q) Eo28q El28q mixed_orders (loopsOK_none (by kernel_rfl)) T28_0q e28_0q (by intro o R K; rcases o with o | o <;> rfl) (fun k n d => c28_0q (lim_isTurned_L1 k n) d) (fun _ _ => rfl) (fun k n d => st28_0q k (lim_isTurned_L1 k n) d)
theorem st28_1q (k : Nat) (rec : List (List Int) → List (List Int) → Int → Int → Option Z28_1q) (d : I28_1q.den) : c28_1q (lim_isTurned_L0b k rec) d = evC E28q A28q k 1000 0 33 (loopAt (bodyOf Proofs.Try.f93) 0) (stOf (1000 + loopBase) I28_1q d) (roundK 1000 I28_1q O28_1q T28_1q (c28_1q rec)) := by
  obtain ⟨⟨⟨_, _⟩, ⟨_, _⟩, ⟨_, _⟩, ⟨_, _⟩, _⟩, _⟩ := d
  kernel_rfl
theorem lk28_1q : LoopOK Proofs.Try.prog 1000 0 33 (loopAt (bodyOf Proofs.Try.f93) 0) L28_1q :=
  loop_sound (A := A28q) (inS := I28_1q) (outs := O28_1q) Eo28q El28q mixed_orders (loopsOK_of (n := 1) (by kernel_rfl) fun i hi => match i, hi with | 0, _ => ⟨L28_0q, by kernel_rfl, lk28_0q⟩ | i + 1, hi => absurd hi (by omega)) T28_1q e28_1q (by intro o R K; rcases o with o | o <;> rfl) (fun k n d => c28_1q (lim_isTurned_L0 k n) d) (fun _ _ => rfl) (fun k n d => st28_1q k (lim_isTurned_L0 k n) d)
def as28q : List AS := [.c (.dat false (.sl (.int .i64)))]
def rs28q : RS := .c (.bool)
def pk28q : Bool → RL rs28q.cells := fun x => (x, ())
def up28q : RL rs28q.cells → Bool := fun d => d.1
def R28q : Nat × Entry := (93, fun k nm args h => entry as28q rs28q (fun d => lim_isTurned k d.1) pk28q nm args h)
theorem ev28q (k : Nat) (d : AD as28q) : evF E28q A28q k 1000 0 Proofs.Try.f93 (absArgs as28q d).1 (absArgs as28q d).2 (outM rs28q up28q) = lim_isTurned k d.1 := by
  obtain ⟨_, _⟩ := d
  kernel_rfl
theorem Ro28q : EntryOK Proofs.Try.prog R28q := fun k _ _ _ _ _ hy =>
  entry_sound (unpack := up28q) (A := A28q) (k := k) (pre := 1000) (na := 0) (E := E28q) Eo28q El28q mixed_orders (f := 93) (fn := Proofs.Try.f93) (by kernel_rfl) (body_loops (loopsOK_of (n := 1) (by kernel_rfl) fun i hi => match i, hi with | 0, _ => ⟨L28_1q, by kernel_rfl, lk28_1q⟩ | i + 1, hi => absurd hi (by omega))) (enters (fn := Proofs.Try.f93) (by kernel_rfl) (by kernel_rfl) (by kernel_rfl)) (fun _ => rfl) (ev28q k) hy
theorem Rl28q : EntryLocal R28q.2 := entry_local (S := fun k (d : AD as28q) => lim_isTurned k d.1)

/-! ### giro/lim.Is -/
noncomputable def E29q : Env := ⟨Proofs.Try.prog, fun _ => false, sumsOf [R15q, R21q, R20q, R27q, R28q]⟩
def A29q : Notes := ⟨[], []⟩
theorem Eo29q : EnvOK E29q := ⟨eqOK_none, sumsOf_ok (List.forall_mem_cons.2 ⟨Ro15q, List.forall_mem_cons.2 ⟨Ro21q, List.forall_mem_cons.2 ⟨Ro20q, List.forall_mem_cons.2 ⟨Ro27q, List.forall_mem_cons.2 ⟨Ro28q, List.forall_mem_nil _⟩⟩⟩⟩⟩)⟩
theorem El29q : SumsLocal E29q.sums := sumsOf_local (List.forall_mem_cons.2 ⟨Rl15q, List.forall_mem_cons.2 ⟨Rl21q, List.forall_mem_cons.2 ⟨Rl20q, List.forall_mem_cons.2 ⟨Rl27q, List.forall_mem_cons.2 ⟨Rl28q, List.forall_mem_nil _⟩⟩⟩⟩⟩)
def as29q : List AS := [.agg [.dat false y3q, .dat false (.sl (.int .i64)), .dat false (.int .i64), .dat false (.sl (.int .i64))]]
def rs29q : RS := .c (.bool)
def pk29q : Bool → RL rs29q.cells := fun x => (x, ())
def up29q : RL rs29q.cells → Bool := fun d => d.1
def R29q : Nat × Entry := (59, fun k nm args h => entry as29q rs29q (fun d => lim_Is k d.1 d.2.1 d.2.2.1 d.2.2.2.1) pk29q nm args h)
theorem ev29q (k : Nat) (d : AD as29q) : evF E29q A29q k 1000 0 Proofs.Try.f59 (absArgs as29q d).1 (absArgs as29q d).2 (outM rs29q up29q) = lim_Is k d.1 d.2.1 d.2.2.1 d.2.2.2.1 := by
  obtain ⟨_, _, _, _, _⟩ := d
  kernel_rfl
theorem Ro29q : EntryOK Proofs.Try.prog R29q := fun k _ _ _ _ _ hy =>
  entry_sound (unpack := up29q) (A := A29q) (k := k) (pre := 1000) (na := 0) (E := E29q) Eo29q El29q mixed_orders (f := 59) (fn := Proofs.Try.f59) (by kernel_rfl) (body_loops (loopsOK_none (by kernel_rfl))) (enters (fn := Proofs.Try.f59) (by kernel_rfl) (by kernel_rfl) (by kernel_rfl)) (fun _ => rfl) (ev29q k) hy
theorem Rl29q : EntryLocal R29q.2 := entry_local (S := fun k (d : AD as29q) => lim_Is k d.1 d.2.1 d.2.2.1 d.2.2.2.1)

/-! ### slices.Clone[[]giro/api.Acct,giro/api.Acct] -/
noncomputable def E30q : Env := ⟨Proofs.Try.prog, fun _ => false, sumsOf []⟩
def A30q : Notes := ⟨[], []⟩
theorem Eo30q : EnvOK E30q := ⟨eqOK_none, sumsOf_ok (List.forall_mem_nil _)⟩
theorem El30q : SumsLocal E30q.sums := sumsOf_local (List.forall_mem_nil _)
def as30q : List AS := [.c (.dat false y3q)]
def rs30q : RS := .c (.own y3q)
def pk30q : List K2q → RL rs30q.cells := fun x => (x, ())
def up30q : RL rs30q.cells → List K2q := fun d => d.1
def R30q : Nat × Entry := (60, fun k nm args h => entry as30q rs30q (fun d => slices_Clone_Acct k d.1) pk30q nm args h)
theorem nil30q (k : Nat) : evF E30q A30q k 1000 0 Proofs.Try.f60 [.c .nsl] (boxHp []) (outM rs30q up30q) = slices_Clone_Acct k [] := by kernel_rfl
theorem ev30q (k : Nat) (xs : List K2q) : evF E30q A30q k 1000 0 Proofs.Try.f60 [.c (.nfl false y3q xs)] (boxHp []) (outM rs30q up30q) = slices_Clone_Acct k xs := by kernel_rfl
theorem Ro30q : EntryOK Proofs.Try.prog R30q := fun k _ _ _ _ _ hy =>
  entry_nil (t := y3q) (S := fun xs => slices_Clone_Acct k xs) (unpack := up30q) (A := A30q) (k := k) (pre := 1000) (na := 0) (E := E30q) Eo30q El30q mixed_orders (f := 60) (fn := Proofs.Try.f60) (by kernel_rfl) (body_loops (loopsOK_none (by kernel_rfl))) (enters (fn := Proofs.Try.f60) (by kernel_rfl) (by kernel_rfl) (by kernel_rfl)) (fun _ => rfl) (fun x hx => (nil30q k).trans hx) (fun xs x hx => (ev30q k xs).trans hx) hy
theorem Rl30q : EntryLocal R30q.2 := entry_local (S := fun k (d : AD as30q) => slices_Clone_Acct k d.1)

/-! ### slices.Clone[[][]int64,[]int64] -/
noncomputable def E31q : Env := ⟨Proofs.Try.prog, fun _ => false, sumsOf []⟩
def A31q : Notes := ⟨[], []⟩
theorem Eo31q : EnvOK E31q := ⟨eqOK_none, sumsOf_ok (List.forall_mem_nil _)⟩
theorem El31q : SumsLocal E31q.sums := sumsOf_local (List.forall_mem_nil _)
def as31q : List AS := [.c (.dat true (.sl (.int .i64)))]
def rs31q : RS := .c (.jun)
def pk31q : Nat → RL rs31q.cells := fun x => (x, ())
def up31q : RL rs31q.cells → Nat := fun d => d.1
def R31q : Nat × Entry := (94, fun k nm args h => entry as31q rs31q (fun d => slices_Clone_Rowint64 k d.1) pk31q nm args h)
theorem nil31q (k : Nat) : evF E31q A31q k 1000 0 Proofs.Try.f94 [.c .nsl] (boxHp []) (outM rs31q up31q) = slices_Clone_Rowint64 k [] := by kernel_rfl
theorem ev31q (k : Nat) (xs : List (List Int)) : evF E31q A31q k 1000 0 Proofs.Try.f94 [.c (.nfl true (.sl (.int .i64)) xs)] (boxHp []) (outM rs31q up31q) = slices_Clone_Rowint64 k xs := by kernel_rfl
theorem Ro31q : EntryOK Proofs.Try.prog R31q := fun k _ _ _ _ _ hy =>
  entry_nil (t := (.sl (.int .i64))) (S := fun xs => slices_Clone_Rowint64 k xs) (unpack := up31q) (A := A31q) (k := k) (pre := 1000) (na := 0) (E := E31q) Eo31q El31q mixed_orders (f := 94) (fn := Proofs.Try.f94) (by kernel_rfl) (body_loops (loopsOK_none (by kernel_rfl))) (enters (fn := Proofs.Try.f94) (by kernel_rfl) (by kernel_rfl) (by kernel_rfl)) (fun _ => rfl) (fun x hx => (nil31q k).trans hx) (fun xs x hx => (ev31q k xs).trans hx) hy
theorem Rl31q : EntryLocal R31q.2 := entry_local (S := fun k (d : AD as31q) => slices_Clone_Rowint64 k d.1)

/-! ### slices.Clone[[]int64,int64] -/
noncomputable def E32q : Env := ⟨Proofs.Try.prog, fun _ => false, sumsOf []⟩
def A32q : Notes := ⟨[], []⟩
theorem Eo32q : EnvOK E32q := ⟨eqOK_none, sumsOf_ok (List.forall_mem_nil _)⟩
theorem El32q : SumsLocal E32q.sums := sumsOf_local (List.forall_mem_nil _)
def as32q : List AS := [.c (.dat false (.int .i64))]
def rs32q : RS := .c (.own (.int .i64))
def pk32q : List Int → RL rs32q.cells := fun x => (x, ())
def up32q : RL rs32q.cells → List Int := fun d => d.1
def R32q : Nat × Entry := (62, fun k nm args h => entry as32q rs32q (fun d => slices_Clone_int64 k d.1) pk32q nm args h)
theorem nil32q (k : Nat) : evF E32q A32q k 1000 0 Proofs.Try.f62 [.c .nsl] (boxHp []) (outM rs32q up32q) = slices_Clone_int64 k [] := by kernel_rfl
theorem ev32q (k : Nat) (xs : List Int) : evF E32q A32q k 1000 0 Proofs.Try.f62 [.c (.nfl false (.int .i64) xs)] (boxHp []) (outM rs32q up32q) = slices_Clone_int64 k xs := by kernel_rfl
theorem Ro32q : EntryOK Proofs.Try.prog R32q := fun k _ _ _ _ _ hy =>
  entry_nil (t := (.int .i64)) (S := fun xs => slices_Clone_int64 k xs) (unpack := up32q) (A := A32q) (k := k) (pre := 1000) (na := 0) (E := E32q) Eo32q El32q mixed_orders (f := 62) (fn := Proofs.Try.f62) (by kernel_rfl) (body_loops (loopsOK_none (by kernel_rfl))) (enters (fn := Proofs.Try.f62) (by kernel_rfl) (by kernel_rfl) (by kernel_rfl)) (fun _ => rfl) (fun x hx => (nil32q k).trans hx) (fun xs x hx => (ev32q k xs).trans hx) hy
theorem Rl32q : EntryLocal R32q.2 := entry_local (S := fun k (d : AD as32q) => slices_Clone_int64 k d.1)

/-! ### giro/lim.copied -/
noncomputable def E33q : Env := ⟨Proofs.Try.prog, fun _ => false, sumsOf [R31q, R32q]⟩
def I33_0q : Spec := ⟨[(3, .c (.lit (.osl 1001000 none))), (8, .c (.dat true (.sl (.int .i64)))), (9, .c (.int .i64)), (10, .c (.int .i64))], [.pmat], []⟩
def X0_33_0q : Spec := ⟨[(3, .c (.lit (.osl 1001000 none)))], [.pmat], []⟩
def O33_0q : List (Ex × Spec) := [(.exit 0, X0_33_0q)]
abbrev Z33_0q : Type := (List (List Int)) × Nat
def c33_0q (f : List (List Int) → Int → Int → List (List Int) → Nat → Option Z33_0q) (d : I33_0q.den) : Option Z33_0q := f d.1.2.1.1 d.1.2.2.1.1 d.1.2.2.2.1.1 d.2.1.1 d.2.1.2
def T33_0q : OutD O33_0q → Z33_0q := fun d => (d.2.1.1, d.2.1.2)
def e33_0q (base : Nat) (x : Z33_0q) (R : Type) (K : Ex → St → Option R) : Option R := K (.exit 0) (stOf base X0_33_0q (((), ()), ((x.1, x.2), ())))
def L33_0q : LoopSum := ⟨I33_0q, O33_0q, Z33_0q, fun k d => c33_0q (lim_copied_L0 k k) d, e33_0q⟩
def A33q : Notes := ⟨[], [(3, L33_0q)]⟩
theorem Eo33q : EnvOK E33q := ⟨eqOK_none, sumsOf_ok (List.forall_mem_cons.2 ⟨Ro31q, List.forall_mem_cons.2 ⟨Ro32q, List.forall_mem_nil _⟩⟩)⟩
theorem El33q : SumsLocal E33q.sums := sumsOf_local (List.forall_mem_cons.2 ⟨Rl31q, List.forall_mem_cons.2 ⟨Rl32q, List.forall_mem_nil _⟩⟩)
theorem st33_0q (k : Nat) (rec : List (List Int) → Int → Int → List (List Int) → Nat → Option Z33_0q) (d : I33_0q.den) : c33_0q (lim_copied_L0b k rec) d = evC E33q A33q k 1000 0 22 (loopAt (bodyOf Proofs.Try.f61) 0) (stOf (1000 + loopBase) I33_0q d) (roundK 1000 I33_0q O33_0q T33_0q (c33_0q rec)) := by
  obtain ⟨⟨_, ⟨_, _⟩, ⟨_, _⟩, ⟨_, _⟩, _⟩, ⟨_, _⟩⟩ := d
  kernel_rfl
theorem lk33_0q : LoopOK Proofs.Try.prog 1000 0 22 (loopAt (bodyOf Proofs.Try.f61) 0) L33_0q :=
  loop_sound (A := A33q) (inS := I33_0q) (outs := O33_0q) Eo33q El33q mixed_orders (loopsOK_none (by kernel_rfl)) T33_0q e33_0q (fun _ _ _ => rfl) (fun k n d => c33_0q (lim_copied_L0 k n) d) (fun _ _ => rfl) (fun k n d => st33_0q k (lim_copied_L0 k n) d)
def as33q : List AS := [.c (.dat true (.sl (.int .i64)))]
def rs33q : RS := .c (.mat)
def pk33q : List (List Int) → RL rs33q.cells := fun x => (x, ())
def up33q : RL rs33q.cells → List (List Int) := fun d => d.1
def R33q : Nat × Entry := (61, fun k nm args h => entry as33q rs33q (fun d => lim_copied k d.1) pk33q nm args h)
theorem ev33q (k : Nat) (d : AD as33q) : evF E33q A33q k 1000 0 Proofs.Try.f61 (absArgs as33q d).1 (absArgs as33q d).2 (outM rs33q up33q) = lim_copied k d.1 := by
  obtain ⟨_, _⟩ := d
  kernel_rfl
theorem Ro33q : EntryOK Proofs.Try.prog R33q := fun k _ _ _ _ _ hy =>
  entry_sound (unpack := up33q) (A := A33q) (k := k) (pre := 1000) (na := 0) (E := E33q) Eo33q El33q mixed_orders (f := 61) (fn := Proofs.Try.f61) (by kernel_rfl) (body_loops (loopsOK_of (n := 1) (by kernel_rfl) fun i hi => match i, hi with | 0, _ => ⟨L33_0q, by kernel_rfl, lk33_0q⟩ | i + 1, hi => absurd hi (by omega))) (enters (fn := Proofs.Try.f61) (by kernel_rfl) (by kernel_rfl) (by kernel_rfl)) (fun _ => rfl) (ev33q k) hy
theorem Rl33q : EntryLocal R33q.2 := entry_local (S := fun k (d : AD as33q) => lim_copied k d.1)

/-! ### giro/lim.Copy -/
noncomputable def E34q : Env := ⟨Proofs.Try.prog, fun _ => false, sumsOf [R30q, R33q, R32q]⟩
def A34q : Notes := ⟨[], []⟩
theorem Eo34q : EnvOK E34q := ⟨eqOK_none, sumsOf_ok (List.forall_mem_cons.2 ⟨Ro30q, List.forall_mem_cons.2 ⟨Ro33q, List.forall_mem_cons.2 ⟨Ro32q, List.forall_mem_nil _⟩⟩⟩)⟩
theorem El34q : SumsLocal E34q.sums := sumsOf_local (List.forall_mem_cons.2 ⟨Rl30q, List.forall_mem_cons.2 ⟨Rl33q, List.forall_mem_cons.2 ⟨Rl32q, List.forall_mem_nil _⟩⟩⟩)
def as34q : List AS := [.agg [.dat false y3q, .dat true (.sl (.int .i64)), .dat false (.int .i64), .dat true (.sl (.int .i64))]]
def rs34q : RS := .agg [.own y3q, .mat, .own (.int .i64), .mat]
def pk34q : (List K2q) × (List (List Int)) × (List Int) × (List (List Int)) → RL rs34q.cells := fun x => (x.1, x.2.1, x.2.2.1, x.2.2.2, ())
def up34q : RL rs34q.cells → (List K2q) × (List (List Int)) × (List Int) × (List (List Int)) := fun d => (d.1, d.2.1, d.2.2.1, d.2.2.2.1)
def R34q : Nat × Entry := (20, fun k nm args h => entry as34q rs34q (fun d => lim_Copy k d.1 d.2.1 d.2.2.1 d.2.2.2.1) pk34q nm args h)
theorem ev34q (k : Nat) (d : AD as34q) : evF E34q A34q k 1000 0 Proofs.Try.f20 (absArgs as34q d).1 (absArgs as34q d).2 (outM rs34q up34q) = lim_Copy k d.1 d.2.1 d.2.2.1 d.2.2.2.1 := by
  obtain ⟨_, _, _, _, _⟩ := d
  kernel_rfl
theorem Ro34q : EntryOK Proofs.Try.prog R34q := fun k _ _ _ _ _ hy =>
  entry_sound (unpack := up34q) (A := A34q) (k := k) (pre := 1000) (na := 0) (E := E34q) Eo34q El34q mixed_orders (f := 20) (fn := Proofs.Try.f20) (by kernel_rfl) (body_loops (loopsOK_none (by kernel_rfl))) (enters (fn := Proofs.Try.f20) (by kernel_rfl) (by kernel_rfl) (by kernel_rfl)) (fun _ => rfl) (ev34q k) hy
theorem Rl34q : EntryLocal R34q.2 := entry_local (S := fun k (d : AD as34q) => lim_Copy k d.1 d.2.1 d.2.2.1 d.2.2.2.1)

/-! ### giro/pay.Ready -/
noncomputable def E53q : Env := ⟨Proofs.Try.prog, fun _ => false, sumsOf []⟩
def A53q : Notes := ⟨[], []⟩
theorem Eo53q : EnvOK E53q := ⟨eqOK_none, sumsOf_ok (List.forall_mem_nil _)⟩
theorem El53q : SumsLocal E53q.sums := sumsOf_local (List.forall_mem_nil _)
def as53q : List AS := [.agg [.int .i64, .int .i64, .int .i64, .int .i64, .int .i64, .int .i64, .int .i64], .c (.int .i64)]
def rs53q : RS := .c (.bool)
def pk53q : Bool → RL rs53q.cells := fun x => (x, ())
def up53q : RL rs53q.cells → Bool := fun d => d.1
def R53q : Nat × Entry := (128, fun k nm args h => entry as53q rs53q (fun d => pay_Ready k d.1 d.2.1 d.2.2.1 d.2.2.2.1 d.2.2.2.2.1 d.2.2.2.2.2.1 d.2.2.2.2.2.2.1 d.2.2.2.2.2.2.2.1) pk53q nm args h)
theorem ev53q (k : Nat) (d : AD as53q) : evF E53q A53q k 1000 0 Proofs.Try.f128 (absArgs as53q d).1 (absArgs as53q d).2 (outM rs53q up53q) = pay_Ready k d.1 d.2.1 d.2.2.1 d.2.2.2.1 d.2.2.2.2.1 d.2.2.2.2.2.1 d.2.2.2.2.2.2.1 d.2.2.2.2.2.2.2.1 := by
  obtain ⟨_, _, _, _, _, _, _, _, _⟩ := d
  kernel_rfl
theorem Ro53q : EntryOK Proofs.Try.prog R53q := fun k _ _ _ _ _ hy =>
  entry_sound (unpack := up53q) (A := A53q) (k := k) (pre := 1000) (na := 0) (E := E53q) Eo53q El53q mixed_orders (f := 128) (fn := Proofs.Try.f128) (by kernel_rfl) (body_loops (loopsOK_none (by kernel_rfl))) (enters (fn := Proofs.Try.f128) (by kernel_rfl) (by kernel_rfl) (by kernel_rfl)) (fun _ => rfl) (ev53q k) hy
theorem Rl53q : EntryLocal R53q.2 := entry_local (S := fun k (d : AD as53q) => pay_Ready k d.1 d.2.1 d.2.2.1 d.2.2.2.1 d.2.2.2.2.1 d.2.2.2.2.2.1 d.2.2.2.2.2.2.1 d.2.2.2.2.2.2.2.1)

/-! ### giro/view.Ready$1 -/
noncomputable def E54q : Env := ⟨Proofs.Try.prog, fun _ => false, sumsOf [R53q]⟩
def A54q : Notes := ⟨[], []⟩
theorem Eo54q : EnvOK E54q := ⟨eqOK_none, sumsOf_ok (List.forall_mem_cons.2 ⟨Ro53q, List.forall_mem_nil _⟩)⟩
theorem El54q : SumsLocal E54q.sums := sumsOf_local (List.forall_mem_cons.2 ⟨Rl53q, List.forall_mem_nil _⟩)
def as54q : List AS := [.agg [.int .i64, .int .i64, .int .i64, .int .i64, .int .i64, .int .i64, .int .i64], .ptr [.int .i64]]
def rs54q : RS := .c (.bool)
def pk54q : Bool → RL rs54q.cells := fun x => (x, ())
def up54q : RL rs54q.cells → Bool := fun d => d.1
def R54q : Nat × Entry := (127, fun k nm args h => entry as54q rs54q (fun d => view_Ready_fn1 k d.1 d.2.1 d.2.2.1 d.2.2.2.1 d.2.2.2.2.1 d.2.2.2.2.2.1 d.2.2.2.2.2.2.1 d.2.2.2.2.2.2.2.1) pk54q nm args h)
theorem ev54q (k : Nat) (d : AD as54q) : evF E54q A54q k 1000 0 Proofs.Try.f127 (absArgs as54q d).1 (absArgs as54q d).2 (outM rs54q up54q) = view_Ready_fn1 k d.1 d.2.1 d.2.2.1 d.2.2.2.1 d.2.2.2.2.1 d.2.2.2.2.2.1 d.2.2.2.2.2.2.1 d.2.2.2.2.2.2.2.1 := by
  obtain ⟨_, _, _, _, _, _, _, _, _⟩ := d
  kernel_rfl
theorem Ro54q : EntryOK Proofs.Try.prog R54q := fun k _ _ _ _ _ hy =>
  entry_sound (unpack := up54q) (A := A54q) (k := k) (pre := 1000) (na := 0) (E := E54q) Eo54q El54q mixed_orders (f := 127) (fn := Proofs.Try.f127) (by kernel_rfl) (body_loops (loopsOK_none (by kernel_rfl))) (enters (fn := Proofs.Try.f127) (by kernel_rfl) (by kernel_rfl) (by kernel_rfl)) (fun _ => rfl) (ev54q k) hy
theorem Rl54q : EntryLocal R54q.2 := entry_local (S := fun k (d : AD as54q) => view_Ready_fn1 k d.1 d.2.1 d.2.2.1 d.2.2.2.1 d.2.2.2.2.1 d.2.2.2.2.2.1 d.2.2.2.2.2.2.1 d.2.2.2.2.2.2.2.1)

/-! ### giro/view.all -/
noncomputable def E55q : Env := ⟨Proofs.Try.prog, fun _ => false, sumsOf [R54q]⟩
def I55_0q : Spec := ⟨[(1, .c (.lit (.fn 127 [1001000]))), (5, .c (.lit (.osl 1001001 none))), (8, .c (.dat false (.pair (.int .i64) (.pair (.int .i64) (.pair (.int .i64) (.pair (.int .i64) y3q)))))), (9, .c (.int .i64)), (10, .c (.int .i64))], [.robox [.int .i64], .arr true (.pair (.int .i64) (.pair (.int .i64) (.pair (.int .i64) (.pair (.int .i64) y3q))))], [(5, none, (.pair (.int .i64) (.pair (.int .i64) (.pair (.int .i64) (.pair (.int .i64) y3q)))), false)]⟩
def X0_55_0q : Spec := ⟨[(5, .c (.lit (.osl 1001000 none)))], [.arr true (.pair (.int .i64) (.pair (.int .i64) (.pair (.int .i64) (.pair (.int .i64) y3q))))], []⟩
def O55_0q : List (Ex × Spec) := [(.exit 0, X0_55_0q)]
abbrev Z55_0q : Type := List K1q
def c55_0q (f : List K1q → Int → Int → Int → List K1q → Option Z55_0q) (d : I55_0q.den) : Option Z55_0q := f d.1.2.2.1.1 d.1.2.2.2.1.1 d.1.2.2.2.2.1.1 d.2.1.1 d.2.2.1
def T55_0q : OutD O55_0q → Z55_0q := fun d => d.2.1
def e55_0q (base : Nat) (x : Z55_0q) (R : Type) (K : Ex → St → Option R) : Option R := K (.exit 0) (stOf base X0_55_0q (((), ()), (x, ())))
def L55_0q : LoopSum := ⟨I55_0q, O55_0q, Z55_0q, fun k d => c55_0q (view_all__view_Ready_fn1_L0 k k) d, e55_0q⟩
def A55q : Notes := ⟨[], [(3, L55_0q)]⟩
theorem Eo55q : EnvOK E55q := ⟨eqOK_none, sumsOf_ok (List.forall_mem_cons.2 ⟨Ro54q, List.forall_mem_nil _⟩)⟩
theorem El55q : SumsLocal E55q.sums := sumsOf_local (List.forall_mem_cons.2 ⟨Rl54q, List.forall_mem_nil _⟩)
theorem st55_0q (k : Nat) (rec : List K1q → Int → Int → Int → List K1q → Option Z55_0q) (d : I55_0q.den) : c55_0q (view_all__view_Ready_fn1_L0b k rec) d = evC E55q A55q k 1000 0 23 (loopAt (bodyOf Proofs.Try.f113) 0) (stOf (1000 + loopBase) I55_0q d) (roundK 1000 I55_0q O55_0q T55_0q (c55_0q rec)) := by
  obtain ⟨⟨_, _, ⟨_, _⟩, ⟨_, _⟩, ⟨_, _⟩, _⟩, ⟨⟨_, _⟩, _, _⟩⟩ := d
  kernel_rfl
theorem lk55_0q : LoopOK Proofs.Try.prog 1000 0 23 (loopAt (bodyOf Proofs.Try.f113) 0) L55_0q :=
  loop_sound (A := A55q) (inS := I55_0q) (outs := O55_0q) Eo55q El55q mixed_orders (loopsOK_none (by kernel_rfl)) T55_0q e55_0q (fun _ _ _ => rfl) (fun k n d => c55_0q (view_all__view_Ready_fn1_L0 k n) d) (fun _ _ => rfl) (fun k n d => st55_0q k (view_all__view_Ready_fn1_L0 k n) d)
def as55q : List AS := [.c (.dat false (.pair (.int .i64) (.pair (.int .i64) (.pair (.int .i64) (.pair (.int .i64) y3q))))), .fn 127 [[.int .i64]]]
def rs55q : RS := .c (.own (.pair (.int .i64) (.pair (.int .i64) (.pair (.int .i64) (.pair (.int .i64) y3q)))))
def pk55q : List K1q → RL rs55q.cells := fun x => (x, ())
def up55q : RL rs55q.cells → List K1q := fun d => d.1
def R55q : Nat × Entry := (113, fun k nm args h => entry as55q rs55q (fun d => view_all__view_Ready_fn1 k d.1 d.2.1) pk55q nm args h)
theorem ev55q (k : Nat) (d : AD as55q) : evF E55q A55q k 1000 0 Proofs.Try.f113 (absArgs as55q d).1 (absArgs as55q d).2 (outM rs55q up55q) = view_all__view_Ready_fn1 k d.1 d.2.1 := by
  obtain ⟨_, _, _⟩ := d
  kernel_rfl
theorem Ro55q : EntryOK Proofs.Try.prog R55q := fun k _ _ _ _ _ hy =>
  entry_sound (unpack := up55q) (A := A55q) (k := k) (pre := 1000) (na := 0) (E := E55q) Eo55q El55q mixed_orders (f := 113) (fn := Proofs.Try.f113) (by kernel_rfl) (body_loops (loopsOK_of (n := 1) (by kernel_rfl) fun i hi => match i, hi with | 0, _ => ⟨L55_0q, by kernel_rfl, lk55_0q⟩ | i + 1, hi => absurd hi (by omega))) (enters (fn := Proofs.Try.f113) (by kernel_rfl) (by kernel_rfl) (by kernel_rfl)) (fun _ => rfl) (ev55q k) hy
theorem Rl55q : EntryLocal R55q.2 := entry_local (S := fun k (d : AD as55q) => view_all__view_Ready_fn1 k d.1 d.2.1)

/-! ### giro/view.Ready -/
noncomputable def E56q : Env := ⟨Proofs.Try.prog, fun _ => false, sumsOf [R55q]⟩
def A56q : Notes := ⟨[], []⟩
theorem Eo56q : EnvOK E56q := ⟨eqOK_none, sumsOf_ok (List.forall_mem_cons.2 ⟨Ro55q, List.forall_mem_nil _⟩)⟩
theorem El56q : SumsLocal E56q.sums := sumsOf_local (List.forall_mem_cons.2 ⟨Rl55q, List.forall_mem_nil _⟩)
def as56q : List AS := [.c (.dat false (.pair (.int .i64) (.pair (.int .i64) (.pair (.int .i64) (.pair (.int .i64) y3q))))), .c (.int .i64)]
def rs56q : RS := .c (.own (.pair (.int .i64) (.pair (.int .i64) (.pair (.int .i64) (.pair (.int .i64) y3q)))))
def pk56q : List K1q → RL rs56q.cells := fun x => (x, ())
def up56q : RL rs56q.cells → List K1q := fun d => d.1
def R56q : Nat × Entry := (109, fun k nm args h => entry as56q rs56q (fun d => view_Ready k d.1 d.2.1) pk56q nm args h)
theorem ev56q (k : Nat) (d : AD as56q) : evF E56q A56q k 1000 0 Proofs.Try.f109 (absArgs as56q d).1 (absArgs as56q d).2 (outM rs56q up56q) = view_Ready k d.1 d.2.1 := by
  obtain ⟨_, _, _⟩ := d
  kernel_rfl
theorem Ro56q : EntryOK Proofs.Try.prog R56q := fun k _ _ _ _ _ hy =>
  entry_sound (unpack := up56q) (A := A56q) (k := k) (pre := 1000) (na := 0) (E := E56q) Eo56q El56q mixed_orders (f := 109) (fn := Proofs.Try.f109) (by kernel_rfl) (body_loops (loopsOK_none (by kernel_rfl))) (enters (fn := Proofs.Try.f109) (by kernel_rfl) (by kernel_rfl) (by kernel_rfl)) (fun _ => rfl) (ev56q k) hy
theorem Rl56q : EntryLocal R56q.2 := entry_local (S := fun k (d : AD as56q) => view_Ready k d.1 d.2.1)

/-! ### giro/view.May$1$1 -/
noncomputable def E57q : Env := ⟨Proofs.Try.prog, fun _ => false, sumsOf []⟩
def A57q : Notes := ⟨[], []⟩
theorem Eo57q : EnvOK E57q := ⟨eqOK_none, sumsOf_ok (List.forall_mem_nil _)⟩
theorem El57q : SumsLocal E57q.sums := sumsOf_local (List.forall_mem_nil _)
def as57q : List AS := [.agg [.int .i64, .int .i64, .int .i64, .int .i64, .int .i64, .int .i64, .int .i64], .ptr [.int .i64, .int .i64, .int .i64, .int .i64, .int .i64, .int .i64, .int .i64]]
def rs57q : RS := .c (.bool)
def pk57q : Bool → RL rs57q.cells := fun x => (x, ())
def up57q : RL rs57q.cells → Bool := fun d => d.1
def R57q : Nat × Entry := (115, fun k nm args h => entry as57q rs57q (fun d => view_May_fn1_fn1 k d.1 d.2.1 d.2.2.1 d.2.2.2.1 d.2.2.2.2.1 d.2.2.2.2.2.1 d.2.2.2.2.2.2.1 d.2.2.2.2.2.2.2.1 d.2.2.2.2.2.2.2.2.1 d.2.2.2.2.2.2.2.2.2.1 d.2.2.2.2.2.2.2.2.2.2.1 d.2.2.2.2.2.2.2.2.2.2.2.1 d.2.2.2.2.2.2.2.2.2.2.2.2.1 d.2.2.2.2.2.2.2.2.2.2.2.2.2.1) pk57q nm args h)
theorem ev57q (k : Nat) (d : AD as57q) : evF E57q A57q k 1000 0 Proofs.Try.f115 (absArgs as57q d).1 (absArgs as57q d).2 (outM rs57q up57q) = view_May_fn1_fn1 k d.1 d.2.1 d.2.2.1 d.2.2.2.1 d.2.2.2.2.1 d.2.2.2.2.2.1 d.2.2.2.2.2.2.1 d.2.2.2.2.2.2.2.1 d.2.2.2.2.2.2.2.2.1 d.2.2.2.2.2.2.2.2.2.1 d.2.2.2.2.2.2.2.2.2.2.1 d.2.2.2.2.2.2.2.2.2.2.2.1 d.2.2.2.2.2.2.2.2.2.2.2.2.1 d.2.2.2.2.2.2.2.2.2.2.2.2.2.1 := by
  obtain ⟨_, _, _, _, _, _, _, _, _, _, _, _, _, _, _⟩ := d
  kernel_rfl
theorem Ro57q : EntryOK Proofs.Try.prog R57q := fun k _ _ _ _ _ hy =>
  entry_sound (unpack := up57q) (A := A57q) (k := k) (pre := 1000) (na := 0) (E := E57q) Eo57q El57q mixed_orders (f := 115) (fn := Proofs.Try.f115) (by kernel_rfl) (body_loops (loopsOK_none (by kernel_rfl))) (enters (fn := Proofs.Try.f115) (by kernel_rfl) (by kernel_rfl) (by kernel_rfl)) (fun _ => rfl) (ev57q k) hy
theorem Rl57q : EntryLocal R57q.2 := entry_local (S := fun k (d : AD as57q) => view_May_fn1_fn1 k d.1 d.2.1 d.2.2.1 d.2.2.2.1 d.2.2.2.2.1 d.2.2.2.2.2.1 d.2.2.2.2.2.2.1 d.2.2.2.2.2.2.2.1 d.2.2.2.2.2.2.2.2.1 d.2.2.2.2.2.2.2.2.2.1 d.2.2.2.2.2.2.2.2.2.2.1 d.2.2.2.2.2.2.2.2.2.2.2.1 d.2.2.2.2.2.2.2.2.2.2.2.2.1 d.2.2.2.2.2.2.2.2.2.2.2.2.2.1)

/-! ### slices.IndexFunc[[]giro/api.Pay,giro/api.Pay] -/
noncomputable def E58q : Env := ⟨Proofs.Try.prog, fun _ => false, sumsOf [R57q]⟩
def I58_0q : Spec := ⟨[(0, .c (.dat false (.pair (.int .i64) (.pair (.int .i64) (.pair (.int .i64) (.pair (.int .i64) y3q)))))), (1, .c (.lit (.fn 115 [1001000]))), (7, .c (.int .i64)), (8, .c (.int .i64))], [.robox [.int .i64, .int .i64, .int .i64, .int .i64, .int .i64, .int .i64, .int .i64]], []⟩
def X0_58_0q : Spec := ⟨[], [], []⟩
def X1_58_0q : Spec := ⟨[(4, .c (.int .i64))], [], []⟩
def O58_0q : List (Ex × Spec) := [(.exit 0, X0_58_0q), (.ret, X1_58_0q)]
abbrev Z58_0q : Type := Unit ⊕ Int
def c58_0q (f : List K1q → Int → Int → Int → Int → Int → Int → Int → Int → Int → Option Z58_0q) (d : I58_0q.den) : Option Z58_0q := f d.1.1.1 d.1.2.2.1.1 d.1.2.2.2.1.1 d.2.1.1 d.2.1.2.1 d.2.1.2.2.1 d.2.1.2.2.2.1 d.2.1.2.2.2.2.1 d.2.1.2.2.2.2.2.1 d.2.1.2.2.2.2.2.2.1
def T58_0q : OutD O58_0q → Z58_0q
 | .inl d => .inl ()
 | .inr d => .inr d.1.1.1
def e58_0q (base : Nat) (x : Z58_0q) (R : Type) (K : Ex → St → Option R) : Option R := match x with
 | .inl x => K (.exit 0) (stOf base X0_58_0q ((), ()))
 | .inr x => K .ret (stOf base X1_58_0q (((x, ()), ()), ()))
def L58_0q : LoopSum := ⟨I58_0q, O58_0q, Z58_0q, fun k d => c58_0q (slices_IndexFunc_Pay__view_May_fn1_fn1_L0 k k) d, e58_0q⟩
def A58q : Notes := ⟨[], [(2, L58_0q)]⟩
theorem Eo58q : EnvOK E58q := ⟨eqOK_none, sumsOf_ok (List.forall_mem_cons.2 ⟨Ro57q, List.forall_mem_nil _⟩)⟩
theorem El58q : SumsLocal E58q.sums := sumsOf_local (List.forall_mem_cons.2 ⟨Rl57q, List.forall_mem_nil _⟩)
theorem st58_0q (k : Nat) (rec : List K1q → Int → Int → Int → Int → Int → Int → Int → Int → Int → Option Z58_0q) (d : I58_0q.den) : c58_0q (slices_IndexFunc_Pay__view_May_fn1_fn1_L0b k rec) d = evC E58q A58q k 1000 0 19 (loopAt (bodyOf Proofs.Try.f122) 0) (stOf (1000 + loopBase) I58_0q d) (roundK 1000 I58_0q O58_0q T58_0q (c58_0q rec)) := by
  obtain ⟨⟨⟨_, _⟩, _, ⟨_, _⟩, ⟨_, _⟩, _⟩, ⟨⟨_, _, _, _, _, _, _, _⟩, _⟩⟩ := d
  kernel_rfl
theorem lk58_0q : LoopOK Proofs.Try.prog 1000 0 19 (loopAt (bodyOf Proofs.Try.f122) 0) L58_0q :=
  loop_sound (A := A58q) (inS := I58_0q) (outs := O58_0q) Eo58q El58q mixed_orders (loopsOK_none (by kernel_rfl)) T58_0q e58_0q (by intro o R K; rcases o with o | o <;> rfl) (fun k n d => c58_0q (slices_IndexFunc_Pay__view_May_fn1_fn1_L0 k n) d) (fun _ _ => rfl) (fun k n d => st58_0q k (slices_IndexFunc_Pay__view_May_fn1_fn1_L0 k n) d)
def as58q : List AS := [.c (.dat false (.pair (.int .i64) (.pair (.int .i64) (.pair (.int .i64) (.pair (.int .i64) y3q))))), .fn 115 [[.int .i64, .int .i64, .int .i64, .int .i64, .int .i64, .int .i64, .int .i64]]]
def rs58q : RS := .c (.int .i64)
def pk58q : Int → RL rs58q.cells := fun x => (x, ())
def up58q : RL rs58q.cells → Int := fun d => d.1
def R58q : Nat × Entry := (122, fun k nm args h => entry as58q rs58q (fun d => slices_IndexFunc_Pay__view_May_fn1_fn1 k d.1 d.2.1 d.2.2.1 d.2.2.2.1 d.2.2.2.2.1 d.2.2.2.2.2.1 d.2.2.2.2.2.2.1 d.2.2.2.2.2.2.2.1) pk58q nm args h)
theorem ev58q (k : Nat) (d : AD as58q) : evF E58q A58q k 1000 0 Proofs.Try.f122 (absArgs as58q d).1 (absArgs as58q d).2 (outM rs58q up58q) = slices_IndexFunc_Pay__view_May_fn1_fn1 k d.1 d.2.1 d.2.2.1 d.2.2.2.1 d.2.2.2.2.1 d.2.2.2.2.2.1 d.2.2.2.2.2.2.1 d.2.2.2.2.2.2.2.1 := by
  obtain ⟨_, _, _, _, _, _, _, _, _⟩ := d
  kernel_rfl
theorem Ro58q : EntryOK Proofs.Try.prog R58q := fun k _ _ _ _ _ hy =>
  entry_sound (unpack := up58q) (A := A58q) (k := k) (pre := 1000) (na := 0) (E := E58q) Eo58q El58q mixed_orders (f := 122) (fn := Proofs.Try.f122) (by kernel_rfl) (body_loops (loopsOK_of (n := 1) (by kernel_rfl) fun i hi => match i, hi with | 0, _ => ⟨L58_0q, by kernel_rfl, lk58_0q⟩ | i + 1, hi => absurd hi (by omega))) (enters (fn := Proofs.Try.f122) (by kernel_rfl) (by kernel_rfl) (by kernel_rfl)) (fun _ => rfl) (ev58q k) hy
theorem Rl58q : EntryLocal R58q.2 := entry_local (S := fun k (d : AD as58q) => slices_IndexFunc_Pay__view_May_fn1_fn1 k d.1 d.2.1 d.2.2.1 d.2.2.2.1 d.2.2.2.2.1 d.2.2.2.2.2.1 d.2.2.2.2.2.2.1 d.2.2.2.2.2.2.2.1)

/-! ### slices.ContainsFunc[[]giro/api.Pay,giro/api.Pay] -/
noncomputable def E59q : Env := ⟨Proofs.Try.prog, fun _ => false, sumsOf [R58q]⟩
def A59q : Notes := ⟨[], []⟩
theorem Eo59q : EnvOK E59q := ⟨eqOK_none, sumsOf_ok (List.forall_mem_cons.2 ⟨Ro58q, List.forall_mem_nil _⟩)⟩
theorem El59q : SumsLocal E59q.sums := sumsOf_local (List.forall_mem_cons.2 ⟨Rl58q, List.forall_mem_nil _⟩)
def as59q : List AS := [.c (.dat false (.pair (.int .i64) (.pair (.int .i64) (.pair (.int .i64) (.pair (.int .i64) y3q))))), .fn 115 [[.int .i64, .int .i64, .int .i64, .int .i64, .int .i64, .int .i64, .int .i64]]]
def rs59q : RS := .c (.bool)
def pk59q : Bool → RL rs59q.cells := fun x => (x, ())
def up59q : RL rs59q.cells → Bool := fun d => d.1
def R59q : Nat × Entry := (116, fun k nm args h => entry as59q rs59q (fun d => slices_ContainsFunc_Pay__view_May_fn1_fn1 k d.1 d.2.1 d.2.2.1 d.2.2.2.1 d.2.2.2.2.1 d.2.2.2.2.2.1 d.2.2.2.2.2.2.1 d.2.2.2.2.2.2.2.1) pk59q nm args h)
theorem ev59q (k : Nat) (d : AD as59q) : evF E59q A59q k 1000 0 Proofs.Try.f116 (absArgs as59q d).1 (absArgs as59q d).2 (outM rs59q up59q) = slices_ContainsFunc_Pay__view_May_fn1_fn1 k d.1 d.2.1 d.2.2.1 d.2.2.2.1 d.2.2.2.2.1 d.2.2.2.2.2.1 d.2.2.2.2.2.2.1 d.2.2.2.2.2.2.2.1 := by
  obtain ⟨_, _, _, _, _, _, _, _, _⟩ := d
  kernel_rfl
theorem Ro59q : EntryOK Proofs.Try.prog R59q := fun k _ _ _ _ _ hy =>
  entry_sound (unpack := up59q) (A := A59q) (k := k) (pre := 1000) (na := 0) (E := E59q) Eo59q El59q mixed_orders (f := 116) (fn := Proofs.Try.f116) (by kernel_rfl) (body_loops (loopsOK_none (by kernel_rfl))) (enters (fn := Proofs.Try.f116) (by kernel_rfl) (by kernel_rfl) (by kernel_rfl)) (fun _ => rfl) (ev59q k) hy
theorem Rl59q : EntryLocal R59q.2 := entry_local (S := fun k (d : AD as59q) => slices_ContainsFunc_Pay__view_May_fn1_fn1 k d.1 d.2.1 d.2.2.1 d.2.2.2.1 d.2.2.2.2.1 d.2.2.2.2.2.1 d.2.2.2.2.2.2.1 d.2.2.2.2.2.2.2.1)

/-! ### giro/view.May$1 -/
noncomputable def E60q : Env := ⟨Proofs.Try.prog, fun _ => false, sumsOf [R59q]⟩
def A60q : Notes := ⟨[], []⟩
theorem Eo60q : EnvOK E60q := ⟨eqOK_none, sumsOf_ok (List.forall_mem_cons.2 ⟨Ro59q, List.forall_mem_nil _⟩)⟩
theorem El60q : SumsLocal E60q.sums := sumsOf_local (List.forall_mem_cons.2 ⟨Rl59q, List.forall_mem_nil _⟩)
def as60q : List AX := [.agg [.int .i64, .int .i64, .int .i64, .int .i64, .int .i64, .int .i64, .int .i64], .ptr true [.map], .ptr false [.p (.dat false (.pair (.int .i64) (.pair (.int .i64) (.pair (.int .i64) (.pair (.int .i64) y3q)))))]]
def rs60q : RS := .c (.bool)
def os60q : List (List RC) := [[.map]]
def pk60q : Bool × (List (Int × Bool)) → RL (rs60q.cells ++ os60q.flatten) := fun x => (x.1, x.2, ())
def up60q : RL (rs60q.cells ++ os60q.flatten) → Bool × (List (Int × Bool)) := fun d => (d.1, d.2.1)
def R60q : Nat × Entry := (114, fun k nm args h => entryX as60q rs60q os60q (fun d => view_May_fn1 k d.1 d.2.1 d.2.2.1 d.2.2.2.1 d.2.2.2.2.1 d.2.2.2.2.2.1 d.2.2.2.2.2.2.1 d.2.2.2.2.2.2.2.1 d.2.2.2.2.2.2.2.2.1) pk60q nm args h)
theorem ev60q (k : Nat) (d : XD as60q) : evF E60q A60q k 1000 3 Proofs.Try.f114 (absArgsX as60q d).1 (absArgsX as60q d).2 (outXM as60q rs60q os60q up60q) = view_May_fn1 k d.1 d.2.1 d.2.2.1 d.2.2.2.1 d.2.2.2.2.1 d.2.2.2.2.2.1 d.2.2.2.2.2.2.1 d.2.2.2.2.2.2.2.1 d.2.2.2.2.2.2.2.2.1 := by
  obtain ⟨_, _, _, _, _, _, _, _, _, _⟩ := d
  kernel_rfl
theorem Ro60q : EntryOK Proofs.Try.prog R60q := fun k _ _ _ _ _ hy =>
  entryX_sound (unpack := up60q) (A := A60q) (k := k) (pre := 1000) (na := 3) (E := E60q) Eo60q El60q mixed_orders (f := 114) (fn := Proofs.Try.f114) (by kernel_rfl) (body_loops (loopsOK_none (by kernel_rfl))) (enters (fn := Proofs.Try.f114) (by kernel_rfl) (by kernel_rfl) (by kernel_rfl)) (fun _ => rfl) (by kernel_rfl) (ev60q k) hy
theorem Rl60q : EntryLocal R60q.2 := entryX_local (S := fun k (d : XD as60q) => view_May_fn1 k d.1 d.2.1 d.2.2.1 d.2.2.2.1 d.2.2.2.2.1 d.2.2.2.2.2.1 d.2.2.2.2.2.2.1 d.2.2.2.2.2.2.2.1 d.2.2.2.2.2.2.2.2.1)

/-! ### giro/view.all -/
noncomputable def E61q : Env := ⟨Proofs.Try.prog, fun _ => false, sumsOf [R60q]⟩
def I61_0q : Spec := ⟨[(1, .c (.lit (.fn 114 [1001000, 1001002]))), (5, .c (.lit (.osl 1001003 none))), (8, .c (.dat false (.pair (.int .i64) (.pair (.int .i64) (.pair (.int .i64) (.pair (.int .i64) y3q)))))), (9, .c (.int .i64)), (10, .c (.int .i64))], [.box true [.lit (.map 1001001)], .imap, .robox [.dat false (.pair (.int .i64) (.pair (.int .i64) (.pair (.int .i64) (.pair (.int .i64) y3q))))], .arr true (.pair (.int .i64) (.pair (.int .i64) (.pair (.int .i64) (.pair (.int .i64) y3q))))], [(5, none, (.pair (.int .i64) (.pair (.int .i64) (.pair (.int .i64) (.pair (.int .i64) y3q)))), false)]⟩
def X0_61_0q : Spec := ⟨[(1, .c (.lit (.fn 114 [1001000, 1001002]))), (5, .c (.lit (.osl 1001003 none)))], [.box true [.lit (.map 1001001)], .imap, .robox [.dat false (.pair (.int .i64) (.pair (.int .i64) (.pair (.int .i64) (.pair (.int .i64) y3q))))], .arr true (.pair (.int .i64) (.pair (.int .i64) (.pair (.int .i64) (.pair (.int .i64) y3q))))], []⟩
def O61_0q : List (Ex × Spec) := [(.exit 0, X0_61_0q)]
abbrev Z61_0q : Type := (List (Int × Bool)) × (List K1q) × (List K1q)
def c61_0q (f : List K1q → Int → Int → List (Int × Bool) → List K1q → List K1q → Option Z61_0q) (d : I61_0q.den) : Option Z61_0q := f d.1.2.2.1.1 d.1.2.2.2.1.1 d.1.2.2.2.2.1.1 d.2.2.1 d.2.2.2.1.1 d.2.2.2.2.1
def T61_0q : OutD O61_0q → Z61_0q := fun d => (d.2.2.1, d.2.2.2.1.1, d.2.2.2.2.1)
def e61_0q (base : Nat) (x : Z61_0q) (R : Type) (K : Ex → St → Option R) : Option R := K (.exit 0) (stOf base X0_61_0q (((), (), ()), ((), x.1, (x.2.1, ()), x.2.2, ())))
def L61_0q : LoopSum := ⟨I61_0q, O61_0q, Z61_0q, fun k d => c61_0q (view_all__view_May_fn1_L0 k k) d, e61_0q⟩
def A61q : Notes := ⟨[], [(3, L61_0q)]⟩
theorem Eo61q : EnvOK E61q := ⟨eqOK_none, sumsOf_ok (List.forall_mem_cons.2 ⟨Ro60q, List.forall_mem_nil _⟩)⟩
theorem El61q : SumsLocal E61q.sums := sumsOf_local (List.forall_mem_cons.2 ⟨Rl60q, List.forall_mem_nil _⟩)
theorem st61_0q (k : Nat) (rec : List K1q → Int → Int → List (Int × Bool) → List K1q → List K1q → Option Z61_0q) (d : I61_0q.den) : c61_0q (view_all__view_May_fn1_L0b k rec) d = evC E61q A61q k 1000 2 23 (loopAt (bodyOf Proofs.Try.f113) 0) (stOf (1000 + loopBase) I61_0q d) (roundK 1000 I61_0q O61_0q T61_0q (c61_0q rec)) := by
  obtain ⟨⟨_, _, ⟨_, _⟩, ⟨_, _⟩, ⟨_, _⟩, _⟩, ⟨_, _, ⟨_, _⟩, _, _⟩⟩ := d
  kernel_rfl
theorem lk61_0q : LoopOK Proofs.Try.prog 1000 2 23 (loopAt (bodyOf Proofs.Try.f113) 0) L61_0q :=
  loop_sound (A := A61q) (inS := I61_0q) (outs := O61_0q) Eo61q El61q mixed_orders (loopsOK_none (by kernel_rfl)) T61_0q e61_0q (fun _ _ _ => rfl) (fun k n d => c61_0q (view_all__view_May_fn1_L0 k n) d) (fun _ _ => rfl) (fun k n d => st61_0q k (view_all__view_May_fn1_L0 k n) d)
def as61q : List AX := [.c (.p (.dat false (.pair (.int .i64) (.pair (.int .i64) (.pair (.int .i64) (.pair (.int .i64) y3q)))))), .fn 114 [(true, [.map]), (false, [.p (.dat false (.pair (.int .i64) (.pair (.int .i64) (.pair (.int .i64) (.pair (.int .i64) y3q)))))])]]
def rs61q : RS := .c (.own (.pair (.int .i64) (.pair (.int .i64) (.pair (.int .i64) (.pair (.int .i64) y3q)))))
def os61q : List (List RC) := [[.map]]
def pk61q : (List K1q) × (List (Int × Bool)) → RL (rs61q.cells ++ os61q.flatten) := fun x => (x.1, x.2, ())
def up61q : RL (rs61q.cells ++ os61q.flatten) → (List K1q) × (List (Int × Bool)) := fun d => (d.1, d.2.1)
def R61q : Nat × Entry := (113, fun k nm args h => entryX as61q rs61q os61q (fun d => view_all__view_May_fn1 k d.1 d.2.1 d.2.2.1) pk61q nm args h)
theorem ev61q (k : Nat) (d : XD as61q) : evF E61q A61q k 1000 2 Proofs.Try.f113 (absArgsX as61q d).1 (absArgsX as61q d).2 (outXM as61q rs61q os61q up61q) = view_all__view_May_fn1 k d.1 d.2.1 d.2.2.1 := by
  obtain ⟨_, _, _, _⟩ := d
  kernel_rfl
theorem Ro61q : EntryOK Proofs.Try.prog R61q := fun k _ _ _ _ _ hy =>
  entryX_sound (unpack := up61q) (A := A61q) (k := k) (pre := 1000) (na := 2) (E := E61q) Eo61q El61q mixed_orders (f := 113) (fn := Proofs.Try.f113) (by kernel_rfl) (body_loops (loopsOK_of (n := 1) (by kernel_rfl) fun i hi => match i, hi with | 0, _ => ⟨L61_0q, by kernel_rfl, lk61_0q⟩ | i + 1, hi => absurd hi (by omega))) (enters (fn := Proofs.Try.f113) (by kernel_rfl) (by kernel_rfl) (by kernel_rfl)) (fun _ => rfl) (by kernel_rfl) (ev61q k) hy
theorem Rl61q : EntryLocal R61q.2 := entryX_local (S := fun k (d : XD as61q) => view_all__view_May_fn1 k d.1 d.2.1 d.2.2.1)

/-! ### giro/view.May -/
noncomputable def E62q : Env := ⟨Proofs.Try.prog, fun _ => false, sumsOf [R56q, R61q]⟩
def A62q : Notes := ⟨[], []⟩
theorem Eo62q : EnvOK E62q := ⟨eqOK_none, sumsOf_ok (List.forall_mem_cons.2 ⟨Ro56q, List.forall_mem_cons.2 ⟨Ro61q, List.forall_mem_nil _⟩⟩)⟩
theorem El62q : SumsLocal E62q.sums := sumsOf_local (List.forall_mem_cons.2 ⟨Rl56q, List.forall_mem_cons.2 ⟨Rl61q, List.forall_mem_nil _⟩⟩)
def as62q : List AS := [.c (.dat false (.pair (.int .i64) (.pair (.int .i64) (.pair (.int .i64) (.pair (.int .i64) y3q))))), .c (.int .i64)]
def rs62q : RS := .c (.own (.pair (.int .i64) (.pair (.int .i64) (.pair (.int .i64) (.pair (.int .i64) y3q)))))
def pk62q : List K1q → RL rs62q.cells := fun x => (x, ())
def up62q : RL rs62q.cells → List K1q := fun d => d.1
def R62q : Nat × Entry := (95, fun k nm args h => entry as62q rs62q (fun d => view_May k d.1 d.2.1) pk62q nm args h)
theorem ev62q (k : Nat) (d : AD as62q) : evF E62q A62q k 1000 0 Proofs.Try.f95 (absArgs as62q d).1 (absArgs as62q d).2 (outM rs62q up62q) = view_May k d.1 d.2.1 := by
  obtain ⟨_, _, _⟩ := d
  kernel_rfl
theorem Ro62q : EntryOK Proofs.Try.prog R62q := fun k _ _ _ _ _ hy =>
  entry_sound (unpack := up62q) (A := A62q) (k := k) (pre := 1000) (na := 0) (E := E62q) Eo62q El62q mixed_orders (f := 95) (fn := Proofs.Try.f95) (by kernel_rfl) (body_loops (loopsOK_none (by kernel_rfl))) (enters (fn := Proofs.Try.f95) (by kernel_rfl) (by kernel_rfl) (by kernel_rfl)) (fun _ => rfl) (ev62q k) hy
theorem Rl62q : EntryLocal R62q.2 := entry_local (S := fun k (d : AD as62q) => view_May k d.1 d.2.1)

/-! ### giro/fits.May -/
noncomputable def E63q : Env := ⟨Proofs.Try.prog, fun _ => false, sumsOf []⟩
def A63q : Notes := ⟨[], []⟩
theorem Eo63q : EnvOK E63q := ⟨eqOK_none, sumsOf_ok (List.forall_mem_nil _)⟩
theorem El63q : SumsLocal E63q.sums := sumsOf_local (List.forall_mem_nil _)
def as63q : List AS := [.agg [.dat false y3q, .dat false (.sl (.int .i64)), .dat false (.int .i64), .dat false (.sl (.int .i64))], .agg [.int .i64, .int .i64, .int .i64, .int .i64, .int .i64, .int .i64, .int .i64]]
def rs63q : RS := .c (.bool)
def pk63q : Bool → RL rs63q.cells := fun x => (x, ())
def up63q : RL rs63q.cells → Bool := fun d => d.1
def R63q : Nat × Entry := (118, fun k nm args h => entry as63q rs63q (fun d => fits_May k d.1 d.2.1 d.2.2.1 d.2.2.2.1 d.2.2.2.2.1 d.2.2.2.2.2.1 d.2.2.2.2.2.2.1 d.2.2.2.2.2.2.2.1 d.2.2.2.2.2.2.2.2.1 d.2.2.2.2.2.2.2.2.2.1 d.2.2.2.2.2.2.2.2.2.2.1) pk63q nm args h)
theorem ev63q (k : Nat) (d : AD as63q) : evF E63q A63q k 1000 0 Proofs.Try.f118 (absArgs as63q d).1 (absArgs as63q d).2 (outM rs63q up63q) = fits_May k d.1 d.2.1 d.2.2.1 d.2.2.2.1 d.2.2.2.2.1 d.2.2.2.2.2.1 d.2.2.2.2.2.2.1 d.2.2.2.2.2.2.2.1 d.2.2.2.2.2.2.2.2.1 d.2.2.2.2.2.2.2.2.2.1 d.2.2.2.2.2.2.2.2.2.2.1 := by
  obtain ⟨_, _, _, _, _, _, _, _, _, _, _, _⟩ := d
  kernel_rfl
theorem Ro63q : EntryOK Proofs.Try.prog R63q := fun k _ _ _ _ _ hy =>
  entry_sound (unpack := up63q) (A := A63q) (k := k) (pre := 1000) (na := 0) (E := E63q) Eo63q El63q mixed_orders (f := 118) (fn := Proofs.Try.f118) (by kernel_rfl) (body_loops (loopsOK_none (by kernel_rfl))) (enters (fn := Proofs.Try.f118) (by kernel_rfl) (by kernel_rfl) (by kernel_rfl)) (fun _ => rfl) (ev63q k) hy
theorem Rl63q : EntryLocal R63q.2 := entry_local (S := fun k (d : AD as63q) => fits_May k d.1 d.2.1 d.2.2.1 d.2.2.2.1 d.2.2.2.2.1 d.2.2.2.2.2.1 d.2.2.2.2.2.2.1 d.2.2.2.2.2.2.2.1 d.2.2.2.2.2.2.2.2.1 d.2.2.2.2.2.2.2.2.2.1 d.2.2.2.2.2.2.2.2.2.2.1)

/-! ### giro/fits.Fits$1 -/
noncomputable def E64q : Env := ⟨Proofs.Try.prog, fun _ => false, sumsOf [R63q]⟩
def A64q : Notes := ⟨[], []⟩
theorem Eo64q : EnvOK E64q := ⟨eqOK_none, sumsOf_ok (List.forall_mem_cons.2 ⟨Ro63q, List.forall_mem_nil _⟩)⟩
theorem El64q : SumsLocal E64q.sums := sumsOf_local (List.forall_mem_cons.2 ⟨Rl63q, List.forall_mem_nil _⟩)
def as64q : List AS := [.agg [.int .i64, .int .i64, .int .i64, .int .i64, .int .i64, .int .i64, .int .i64], .ptr [.dat false y3q, .dat false (.sl (.int .i64)), .dat false (.int .i64), .dat false (.sl (.int .i64))]]
def rs64q : RS := .c (.bool)
def pk64q : Bool → RL rs64q.cells := fun x => (x, ())
def up64q : RL rs64q.cells → Bool := fun d => d.1
def R64q : Nat × Entry := (117, fun k nm args h => entry as64q rs64q (fun d => fits_Fits_fn1 k d.1 d.2.1 d.2.2.1 d.2.2.2.1 d.2.2.2.2.1 d.2.2.2.2.2.1 d.2.2.2.2.2.2.1 d.2.2.2.2.2.2.2.1 d.2.2.2.2.2.2.2.2.1 d.2.2.2.2.2.2.2.2.2.1 d.2.2.2.2.2.2.2.2.2.2.1) pk64q nm args h)
theorem ev64q (k : Nat) (d : AD as64q) : evF E64q A64q k 1000 0 Proofs.Try.f117 (absArgs as64q d).1 (absArgs as64q d).2 (outM rs64q up64q) = fits_Fits_fn1 k d.1 d.2.1 d.2.2.1 d.2.2.2.1 d.2.2.2.2.1 d.2.2.2.2.2.1 d.2.2.2.2.2.2.1 d.2.2.2.2.2.2.2.1 d.2.2.2.2.2.2.2.2.1 d.2.2.2.2.2.2.2.2.2.1 d.2.2.2.2.2.2.2.2.2.2.1 := by
  obtain ⟨_, _, _, _, _, _, _, _, _, _, _, _⟩ := d
  kernel_rfl
theorem Ro64q : EntryOK Proofs.Try.prog R64q := fun k _ _ _ _ _ hy =>
  entry_sound (unpack := up64q) (A := A64q) (k := k) (pre := 1000) (na := 0) (E := E64q) Eo64q El64q mixed_orders (f := 117) (fn := Proofs.Try.f117) (by kernel_rfl) (body_loops (loopsOK_none (by kernel_rfl))) (enters (fn := Proofs.Try.f117) (by kernel_rfl) (by kernel_rfl) (by kernel_rfl)) (fun _ => rfl) (ev64q k) hy
theorem Rl64q : EntryLocal R64q.2 := entry_local (S := fun k (d : AD as64q) => fits_Fits_fn1 k d.1 d.2.1 d.2.2.1 d.2.2.2.1 d.2.2.2.2.1 d.2.2.2.2.2.1 d.2.2.2.2.2.2.1 d.2.2.2.2.2.2.2.1 d.2.2.2.2.2.2.2.2.1 d.2.2.2.2.2.2.2.2.2.1 d.2.2.2.2.2.2.2.2.2.2.1)

/-! ### slices.IndexFunc[[]giro/api.Pay,giro/api.Pay] -/
noncomputable def E65q : Env := ⟨Proofs.Try.prog, fun _ => false, sumsOf [R64q]⟩
def I65_0q : Spec := ⟨[(0, .c (.dat false (.pair (.int .i64) (.pair (.int .i64) (.pair (.int .i64) (.pair (.int .i64) y3q)))))), (1, .c (.lit (.fn 117 [1001000]))), (7, .c (.int .i64)), (8, .c (.int .i64))], [.robox [.dat false y3q, .dat false (.sl (.int .i64)), .dat false (.int .i64), .dat false (.sl (.int .i64))]], []⟩
def X0_65_0q : Spec := ⟨[], [], []⟩
def X1_65_0q : Spec := ⟨[(4, .c (.int .i64))], [], []⟩
def O65_0q : List (Ex × Spec) := [(.exit 0, X0_65_0q), (.ret, X1_65_0q)]
abbrev Z65_0q : Type := Unit ⊕ Int
def c65_0q (f : List K1q → Int → Int → List K2q → List (List Int) → List Int → List (List Int) → Option Z65_0q) (d : I65_0q.den) : Option Z65_0q := f d.1.1.1 d.1.2.2.1.1 d.1.2.2.2.1.1 d.2.1.1 d.2.1.2.1 d.2.1.2.2.1 d.2.1.2.2.2.1
def T65_0q : OutD O65_0q → Z65_0q
 | .inl d => .inl ()
 | .inr d => .inr d.1.1.1
def e65_0q (base : Nat) (x : Z65_0q) (R : Type) (K : Ex → St → Option R) : Option R := match x with
 | .inl x => K (.exit 0) (stOf base X0_65_0q ((), ()))
 | .inr x => K .ret (stOf base X1_65_0q (((x, ()), ()), ()))
def L65_0q : LoopSum := ⟨I65_0q, O65_0q, Z65_0q, fun k d => c65_0q (slices_IndexFunc_Pay__fits_Fits_fn1_L0 k k) d, e65_0q⟩
def A65q : Notes := ⟨[], [(2, L65_0q)]⟩
theorem Eo65q : EnvOK E65q := ⟨eqOK_none, sumsOf_ok (List.forall_mem_cons.2 ⟨Ro64q, List.forall_mem_nil _⟩)⟩
theorem El65q : SumsLocal E65q.sums := sumsOf_local (List.forall_mem_cons.2 ⟨Rl64q, List.forall_mem_nil _⟩)
theorem st65_0q (k : Nat) (rec : List K1q → Int → Int → List K2q → List (List Int) → List Int → List (List Int) → Option Z65_0q) (d : I65_0q.den) : c65_0q (slices_IndexFunc_Pay__fits_Fits_fn1_L0b k rec) d = evC E65q A65q k 1000 0 19 (loopAt (bodyOf Proofs.Try.f122) 0) (stOf (1000 + loopBase) I65_0q d) (roundK 1000 I65_0q O65_0q T65_0q (c65_0q rec)) := by
  obtain ⟨⟨⟨_, _⟩, _, ⟨_, _⟩, ⟨_, _⟩, _⟩, ⟨⟨_, _, _, _, _⟩, _⟩⟩ := d
  kernel_rfl
theorem lk65_0q : LoopOK Proofs.Try.prog 1000 0 19 (loopAt (bodyOf Proofs.Try.f122) 0) L65_0q :=
  loop_sound (A := A65q) (inS := I65_0q) (outs := O65_0q) Eo65q El65q mixed_orders (loopsOK_none (by kernel_rfl)) T65_0q e65_0q (by intro o R K; rcases o with o | o <;> rfl) (fun k n d => c65_0q (slices_IndexFunc_Pay__fits_Fits_fn1_L0 k n) d) (fun _ _ => rfl) (fun k n d => st65_0q k (slices_IndexFunc_Pay__fits_Fits_fn1_L0 k n) d)
def as65q : List AS := [.c (.dat false (.pair (.int .i64) (.pair (.int .i64) (.pair (.int .i64) (.pair (.int .i64) y3q))))), .fn 117 [[.dat false y3q, .dat false (.sl (.int .i64)), .dat false (.int .i64), .dat false (.sl (.int .i64))]]]
def rs65q : RS := .c (.int .i64)
def pk65q : Int → RL rs65q.cells := fun x => (x, ())
def up65q : RL rs65q.cells → Int := fun d => d.1
def R65q : Nat × Entry := (122, fun k nm args h => entry as65q rs65q (fun d => slices_IndexFunc_Pay__fits_Fits_fn1 k d.1 d.2.1 d.2.2.1 d.2.2.2.1 d.2.2.2.2.1) pk65q nm args h)
theorem ev65q (k : Nat) (d : AD as65q) : evF E65q A65q k 1000 0 Proofs.Try.f122 (absArgs as65q d).1 (absArgs as65q d).2 (outM rs65q up65q) = slices_IndexFunc_Pay__fits_Fits_fn1 k d.1 d.2.1 d.2.2.1 d.2.2.2.1 d.2.2.2.2.1 := by
  obtain ⟨_, _, _, _, _, _⟩ := d
  kernel_rfl
theorem Ro65q : EntryOK Proofs.Try.prog R65q := fun k _ _ _ _ _ hy =>
  entry_sound (unpack := up65q) (A := A65q) (k := k) (pre := 1000) (na := 0) (E := E65q) Eo65q El65q mixed_orders (f := 122) (fn := Proofs.Try.f122) (by kernel_rfl) (body_loops (loopsOK_of (n := 1) (by kernel_rfl) fun i hi => match i, hi with | 0, _ => ⟨L65_0q, by kernel_rfl, lk65_0q⟩ | i + 1, hi => absurd hi (by omega))) (enters (fn := Proofs.Try.f122) (by kernel_rfl) (by kernel_rfl) (by kernel_rfl)) (fun _ => rfl) (ev65q k) hy
theorem Rl65q : EntryLocal R65q.2 := entry_local (S := fun k (d : AD as65q) => slices_IndexFunc_Pay__fits_Fits_fn1 k d.1 d.2.1 d.2.2.1 d.2.2.2.1 d.2.2.2.2.1)

/-! ### slices.ContainsFunc[[]giro/api.Pay,giro/api.Pay] -/
noncomputable def E66q : Env := ⟨Proofs.Try.prog, fun _ => false, sumsOf [R65q]⟩
def A66q : Notes := ⟨[], []⟩
theorem Eo66q : EnvOK E66q := ⟨eqOK_none, sumsOf_ok (List.forall_mem_cons.2 ⟨Ro65q, List.forall_mem_nil _⟩)⟩
theorem El66q : SumsLocal E66q.sums := sumsOf_local (List.forall_mem_cons.2 ⟨Rl65q, List.forall_mem_nil _⟩)
def as66q : List AS := [.c (.dat false (.pair (.int .i64) (.pair (.int .i64) (.pair (.int .i64) (.pair (.int .i64) y3q))))), .fn 117 [[.dat false y3q, .dat false (.sl (.int .i64)), .dat false (.int .i64), .dat false (.sl (.int .i64))]]]
def rs66q : RS := .c (.bool)
def pk66q : Bool → RL rs66q.cells := fun x => (x, ())
def up66q : RL rs66q.cells → Bool := fun d => d.1
def R66q : Nat × Entry := (116, fun k nm args h => entry as66q rs66q (fun d => slices_ContainsFunc_Pay__fits_Fits_fn1 k d.1 d.2.1 d.2.2.1 d.2.2.2.1 d.2.2.2.2.1) pk66q nm args h)
theorem ev66q (k : Nat) (d : AD as66q) : evF E66q A66q k 1000 0 Proofs.Try.f116 (absArgs as66q d).1 (absArgs as66q d).2 (outM rs66q up66q) = slices_ContainsFunc_Pay__fits_Fits_fn1 k d.1 d.2.1 d.2.2.1 d.2.2.2.1 d.2.2.2.2.1 := by
  obtain ⟨_, _, _, _, _, _⟩ := d
  kernel_rfl
theorem Ro66q : EntryOK Proofs.Try.prog R66q := fun k _ _ _ _ _ hy =>
  entry_sound (unpack := up66q) (A := A66q) (k := k) (pre := 1000) (na := 0) (E := E66q) Eo66q El66q mixed_orders (f := 116) (fn := Proofs.Try.f116) (by kernel_rfl) (body_loops (loopsOK_none (by kernel_rfl))) (enters (fn := Proofs.Try.f116) (by kernel_rfl) (by kernel_rfl) (by kernel_rfl)) (fun _ => rfl) (ev66q k) hy
theorem Rl66q : EntryLocal R66q.2 := entry_local (S := fun k (d : AD as66q) => slices_ContainsFunc_Pay__fits_Fits_fn1 k d.1 d.2.1 d.2.2.1 d.2.2.2.1 d.2.2.2.2.1)

/-! ### giro/fits.moved -/
noncomputable def E67q : Env := ⟨Proofs.Try.prog, fun _ => false, sumsOf [R8q, R9q]⟩
def I67_0q : Spec := ⟨[(4, .c (.lit (.ptr 1001000 0))), (5, .c (.lit (.ptr 1001001 0))), (15, .c (.dat false (.pair (.int .i64) (.pair (.int .i64) (.pair (.int .i64) (.pair (.int .i64) y3q)))))), (16, .c (.int .i64)), (17, .c (.int .i64))], [.box true [.lit .nsl, .lit .nsl, .lit .nsl], .box true [.lit (.osl 1001002 none), .lit (.osl 1001003 none), .lit (.osl 1001004 none)], .arr true (.int .i64), .arr true (.int .i64), .mat], []⟩
def X0_67_0q : Spec := ⟨[(4, .c (.lit (.ptr 1001000 0))), (5, .c (.lit (.ptr 1001001 0)))], [.box true [.lit .nsl, .lit .nsl, .lit .nsl], .box true [.lit (.osl 1001002 none), .lit (.osl 1001003 none), .lit (.osl 1001004 none)], .arr true (.int .i64), .arr true (.int .i64), .mat], []⟩
def O67_0q : List (Ex × Spec) := [(.exit 0, X0_67_0q)]
abbrev Z67_0q : Type := (List Int) × (List Int) × (List (List Int))
def c67_0q (f : List K1q → Int → Int → List Int → List Int → List (List Int) → Option Z67_0q) (d : I67_0q.den) : Option Z67_0q := f d.1.2.2.1.1 d.1.2.2.2.1.1 d.1.2.2.2.2.1.1 d.2.2.2.1 d.2.2.2.2.1 d.2.2.2.2.2.1
def T67_0q : OutD O67_0q → Z67_0q := fun d => (d.2.2.2.1, d.2.2.2.2.1, d.2.2.2.2.2.1)
def e67_0q (base : Nat) (x : Z67_0q) (R : Type) (K : Ex → St → Option R) : Option R := K (.exit 0) (stOf base X0_67_0q (((), (), ()), ((), (), x.1, x.2.1, x.2.2, ())))
def L67_0q : LoopSum := ⟨I67_0q, O67_0q, Z67_0q, fun k d => c67_0q (fits_moved_L0 k k) d, e67_0q⟩
def A67q : Notes := ⟨[], [(3, L67_0q)]⟩
theorem Eo67q : EnvOK E67q := ⟨eqOK_none, sumsOf_ok (List.forall_mem_cons.2 ⟨Ro8q, List.forall_mem_cons.2 ⟨Ro9q, List.forall_mem_nil _⟩⟩)⟩
theorem El67q : SumsLocal E67q.sums := sumsOf_local (List.forall_mem_cons.2 ⟨Rl8q, List.forall_mem_cons.2 ⟨Rl9q, List.forall_mem_nil _⟩⟩)
theorem st67_0q (k : Nat) (rec : List K1q → Int → Int → List Int → List Int → List (List Int) → Option Z67_0q) (d : I67_0q.den) : c67_0q (fits_moved_L0b k rec) d = evC E67q A67q k 1000 0 84 (loopAt (bodyOf Proofs.Try.f130) 0) (stOf (1000 + loopBase) I67_0q d) (roundK 1000 I67_0q O67_0q T67_0q (c67_0q rec)) := by
  obtain ⟨⟨_, _, ⟨_, _⟩, ⟨_, _⟩, ⟨_, _⟩, _⟩, ⟨_, _, _, _, _, _⟩⟩ := d
  kernel_rfl
theorem lk67_0q : LoopOK Proofs.Try.prog 1000 0 84 (loopAt (bodyOf Proofs.Try.f130) 0) L67_0q :=
  loop_sound (A := A67q) (inS := I67_0q) (outs := O67_0q) Eo67q El67q mixed_orders (loopsOK_none (by kernel_rfl)) T67_0q e67_0q (fun _ _ _ => rfl) (fun k n d => c67_0q (fits_moved_L0 k n) d) (fun _ _ => rfl) (fun k n d => st67_0q k (fits_moved_L0 k n) d)
def as67q : List AS := [.c (.int .i64), .c (.dat false (.pair (.int .i64) (.pair (.int .i64) (.pair (.int .i64) (.pair (.int .i64) y3q)))))]
def rs67q : RS := .agg [.own (.int .i64), .own (.int .i64), .mat]
def pk67q : (List Int) × (List Int) × (List (List Int)) → RL rs67q.cells := fun x => (x.1, x.2.1, x.2.2, ())
def up67q : RL rs67q.cells → (List Int) × (List Int) × (List (List Int)) := fun d => (d.1, d.2.1, d.2.2.1)
def R67q : Nat × Entry := (130, fun k nm args h => entry as67q rs67q (fun d => fits_moved k d.1 d.2.1) pk67q nm args h)
theorem ev67q (k : Nat) (d : AD as67q) : evF E67q A67q k 1000 0 Proofs.Try.f130 (absArgs as67q d).1 (absArgs as67q d).2 (outM rs67q up67q) = fits_moved k d.1 d.2.1 := by
  obtain ⟨_, _, _⟩ := d
  kernel_rfl
theorem Ro67q : EntryOK Proofs.Try.prog R67q := fun k _ _ _ _ _ hy =>
  entry_sound (unpack := up67q) (A := A67q) (k := k) (pre := 1000) (na := 0) (E := E67q) Eo67q El67q mixed_orders (f := 130) (fn := Proofs.Try.f130) (by kernel_rfl) (body_loops (loopsOK_of (n := 1) (by kernel_rfl) fun i hi => match i, hi with | 0, _ => ⟨L67_0q, by kernel_rfl, lk67_0q⟩ | i + 1, hi => absurd hi (by omega))) (enters (fn := Proofs.Try.f130) (by kernel_rfl) (by kernel_rfl) (by kernel_rfl)) (fun _ => rfl) (ev67q k) hy
theorem Rl67q : EntryLocal R67q.2 := entry_local (S := fun k (d : AD as67q) => fits_moved k d.1 d.2.1)

/-! ### giro/fits.Short$1 -/
noncomputable def E68q : Env := ⟨Proofs.Try.prog, fun _ => false, sumsOf []⟩
def A68q : Notes := ⟨[], []⟩
theorem Eo68q : EnvOK E68q := ⟨eqOK_none, sumsOf_ok (List.forall_mem_nil _)⟩
theorem El68q : SumsLocal E68q.sums := sumsOf_local (List.forall_mem_nil _)
def as68q : List AS := [.agg [.int .i64, .int .i64, .int .i64, .int .i64, .int .i64, .int .i64, .int .i64], .ptr [.int .i64]]
def rs68q : RS := .c (.bool)
def pk68q : Bool → RL rs68q.cells := fun x => (x, ())
def up68q : RL rs68q.cells → Bool := fun d => d.1
def R68q : Nat × Entry := (131, fun k nm args h => entry as68q rs68q (fun d => fits_Short_fn1 k d.1 d.2.1 d.2.2.1 d.2.2.2.1 d.2.2.2.2.1 d.2.2.2.2.2.1 d.2.2.2.2.2.2.1 d.2.2.2.2.2.2.2.1) pk68q nm args h)
theorem ev68q (k : Nat) (d : AD as68q) : evF E68q A68q k 1000 0 Proofs.Try.f131 (absArgs as68q d).1 (absArgs as68q d).2 (outM rs68q up68q) = fits_Short_fn1 k d.1 d.2.1 d.2.2.1 d.2.2.2.1 d.2.2.2.2.1 d.2.2.2.2.2.1 d.2.2.2.2.2.2.1 d.2.2.2.2.2.2.2.1 := by
  obtain ⟨_, _, _, _, _, _, _, _, _⟩ := d
  kernel_rfl
theorem Ro68q : EntryOK Proofs.Try.prog R68q := fun k _ _ _ _ _ hy =>
  entry_sound (unpack := up68q) (A := A68q) (k := k) (pre := 1000) (na := 0) (E := E68q) Eo68q El68q mixed_orders (f := 131) (fn := Proofs.Try.f131) (by kernel_rfl) (body_loops (loopsOK_none (by kernel_rfl))) (enters (fn := Proofs.Try.f131) (by kernel_rfl) (by kernel_rfl) (by kernel_rfl)) (fun _ => rfl) (ev68q k) hy
theorem Rl68q : EntryLocal R68q.2 := entry_local (S := fun k (d : AD as68q) => fits_Short_fn1 k d.1 d.2.1 d.2.2.1 d.2.2.2.1 d.2.2.2.2.1 d.2.2.2.2.2.1 d.2.2.2.2.2.2.1 d.2.2.2.2.2.2.2.1)

/-! ### slices.IndexFunc[[]giro/api.Pay,giro/api.Pay] -/
noncomputable def E69q : Env := ⟨Proofs.Try.prog, fun _ => false, sumsOf [R68q]⟩
def I69_0q : Spec := ⟨[(0, .c (.dat false (.pair (.int .i64) (.pair (.int .i64) (.pair (.int .i64) (.pair (.int .i64) y3q)))))), (1, .c (.lit (.fn 131 [1001000]))), (7, .c (.int .i64)), (8, .c (.int .i64))], [.robox [.int .i64]], []⟩
def X0_69_0q : Spec := ⟨[], [], []⟩
def X1_69_0q : Spec := ⟨[(4, .c (.int .i64))], [], []⟩
def O69_0q : List (Ex × Spec) := [(.exit 0, X0_69_0q), (.ret, X1_69_0q)]
abbrev Z69_0q : Type := Unit ⊕ Int
def c69_0q (f : List K1q → Int → Int → Int → Option Z69_0q) (d : I69_0q.den) : Option Z69_0q := f d.1.1.1 d.1.2.2.1.1 d.1.2.2.2.1.1 d.2.1.1
def T69_0q : OutD O69_0q → Z69_0q
 | .inl d => .inl ()
 | .inr d => .inr d.1.1.1
def e69_0q (base : Nat) (x : Z69_0q) (R : Type) (K : Ex → St → Option R) : Option R := match x with
 | .inl x => K (.exit 0) (stOf base X0_69_0q ((), ()))
 | .inr x => K .ret (stOf base X1_69_0q (((x, ()), ()), ()))
def L69_0q : LoopSum := ⟨I69_0q, O69_0q, Z69_0q, fun k d => c69_0q (slices_IndexFunc_Pay__fits_Short_fn1_L0 k k) d, e69_0q⟩
def A69q : Notes := ⟨[], [(2, L69_0q)]⟩
theorem Eo69q : EnvOK E69q := ⟨eqOK_none, sumsOf_ok (List.forall_mem_cons.2 ⟨Ro68q, List.forall_mem_nil _⟩)⟩
theorem El69q : SumsLocal E69q.sums := sumsOf_local (List.forall_mem_cons.2 ⟨Rl68q, List.forall_mem_nil _⟩)
theorem st69_0q (k : Nat) (rec : List K1q → Int → Int → Int → Option Z69_0q) (d : I69_0q.den) : c69_0q (slices_IndexFunc_Pay__fits_Short_fn1_L0b k rec) d = evC E69q A69q k 1000 0 19 (loopAt (bodyOf Proofs.Try.f122) 0) (stOf (1000 + loopBase) I69_0q d) (roundK 1000 I69_0q O69_0q T69_0q (c69_0q rec)) := by
  obtain ⟨⟨⟨_, _⟩, _, ⟨_, _⟩, ⟨_, _⟩, _⟩, ⟨⟨_, _⟩, _⟩⟩ := d
  kernel_rfl
theorem lk69_0q : LoopOK Proofs.Try.prog 1000 0 19 (loopAt (bodyOf Proofs.Try.f122) 0) L69_0q :=
  loop_sound (A := A69q) (inS := I69_0q) (outs := O69_0q) Eo69q El69q mixed_orders (loopsOK_none (by kernel_rfl)) T69_0q e69_0q (by intro o R K; rcases o with o | o <;> rfl) (fun k n d => c69_0q (slices_IndexFunc_Pay__fits_Short_fn1_L0 k n) d) (fun _ _ => rfl) (fun k n d => st69_0q k (slices_IndexFunc_Pay__fits_Short_fn1_L0 k n) d)
def as69q : List AS := [.c (.dat false (.pair (.int .i64) (.pair (.int .i64) (.pair (.int .i64) (.pair (.int .i64) y3q))))), .fn 131 [[.int .i64]]]
def rs69q : RS := .c (.int .i64)
def pk69q : Int → RL rs69q.cells := fun x => (x, ())
def up69q : RL rs69q.cells → Int := fun d => d.1
def R69q : Nat × Entry := (122, fun k nm args h => entry as69q rs69q (fun d => slices_IndexFunc_Pay__fits_Short_fn1 k d.1 d.2.1) pk69q nm args h)
theorem ev69q (k : Nat) (d : AD as69q) : evF E69q A69q k 1000 0 Proofs.Try.f122 (absArgs as69q d).1 (absArgs as69q d).2 (outM rs69q up69q) = slices_IndexFunc_Pay__fits_Short_fn1 k d.1 d.2.1 := by
  obtain ⟨_, _, _⟩ := d
  kernel_rfl
theorem Ro69q : EntryOK Proofs.Try.prog R69q := fun k _ _ _ _ _ hy =>
  entry_sound (unpack := up69q) (A := A69q) (k := k) (pre := 1000) (na := 0) (E := E69q) Eo69q El69q mixed_orders (f := 122) (fn := Proofs.Try.f122) (by kernel_rfl) (body_loops (loopsOK_of (n := 1) (by kernel_rfl) fun i hi => match i, hi with | 0, _ => ⟨L69_0q, by kernel_rfl, lk69_0q⟩ | i + 1, hi => absurd hi (by omega))) (enters (fn := Proofs.Try.f122) (by kernel_rfl) (by kernel_rfl) (by kernel_rfl)) (fun _ => rfl) (ev69q k) hy
theorem Rl69q : EntryLocal R69q.2 := entry_local (S := fun k (d : AD as69q) => slices_IndexFunc_Pay__fits_Short_fn1 k d.1 d.2.1)

/-! ### slices.ContainsFunc[[]giro/api.Pay,giro/api.Pay] -/
noncomputable def E70q : Env := ⟨Proofs.Try.prog, fun _ => false, sumsOf [R69q]⟩
def A70q : Notes := ⟨[], []⟩
theorem Eo70q : EnvOK E70q := ⟨eqOK_none, sumsOf_ok (List.forall_mem_cons.2 ⟨Ro69q, List.forall_mem_nil _⟩)⟩
theorem El70q : SumsLocal E70q.sums := sumsOf_local (List.forall_mem_cons.2 ⟨Rl69q, List.forall_mem_nil _⟩)
def as70q : List AS := [.c (.dat false (.pair (.int .i64) (.pair (.int .i64) (.pair (.int .i64) (.pair (.int .i64) y3q))))), .fn 131 [[.int .i64]]]
def rs70q : RS := .c (.bool)
def pk70q : Bool → RL rs70q.cells := fun x => (x, ())
def up70q : RL rs70q.cells → Bool := fun d => d.1
def R70q : Nat × Entry := (116, fun k nm args h => entry as70q rs70q (fun d => slices_ContainsFunc_Pay__fits_Short_fn1 k d.1 d.2.1) pk70q nm args h)
theorem ev70q (k : Nat) (d : AD as70q) : evF E70q A70q k 1000 0 Proofs.Try.f116 (absArgs as70q d).1 (absArgs as70q d).2 (outM rs70q up70q) = slices_ContainsFunc_Pay__fits_Short_fn1 k d.1 d.2.1 := by
  obtain ⟨_, _, _⟩ := d
  kernel_rfl
theorem Ro70q : EntryOK Proofs.Try.prog R70q := fun k _ _ _ _ _ hy =>
  entry_sound (unpack := up70q) (A := A70q) (k := k) (pre := 1000) (na := 0) (E := E70q) Eo70q El70q mixed_orders (f := 116) (fn := Proofs.Try.f116) (by kernel_rfl) (body_loops (loopsOK_none (by kernel_rfl))) (enters (fn := Proofs.Try.f116) (by kernel_rfl) (by kernel_rfl) (by kernel_rfl)) (fun _ => rfl) (ev70q k) hy
theorem Rl70q : EntryLocal R70q.2 := entry_local (S := fun k (d : AD as70q) => slices_ContainsFunc_Pay__fits_Short_fn1 k d.1 d.2.1)

/-! ### giro/fits.over -/
noncomputable def E71q : Env := ⟨Proofs.Try.prog, fun _ => false, sumsOf []⟩
def A71q : Notes := ⟨[], []⟩
theorem Eo71q : EnvOK E71q := ⟨eqOK_none, sumsOf_ok (List.forall_mem_nil _)⟩
theorem El71q : SumsLocal E71q.sums := sumsOf_local (List.forall_mem_nil _)
def as71q : List AS := [.c (.int .i64), .c (.int .i64)]
def rs71q : RS := .c (.bool)
def pk71q : Bool → RL rs71q.cells := fun x => (x, ())
def up71q : RL rs71q.cells → Bool := fun d => d.1
def R71q : Nat × Entry := (134, fun k nm args h => entry as71q rs71q (fun d => fits_over k d.1 d.2.1) pk71q nm args h)
theorem ev71q (k : Nat) (d : AD as71q) : evF E71q A71q k 1000 0 Proofs.Try.f134 (absArgs as71q d).1 (absArgs as71q d).2 (outM rs71q up71q) = fits_over k d.1 d.2.1 := by
  obtain ⟨_, _, _⟩ := d
  kernel_rfl
theorem Ro71q : EntryOK Proofs.Try.prog R71q := fun k _ _ _ _ _ hy =>
  entry_sound (unpack := up71q) (A := A71q) (k := k) (pre := 1000) (na := 0) (E := E71q) Eo71q El71q mixed_orders (f := 134) (fn := Proofs.Try.f134) (by kernel_rfl) (body_loops (loopsOK_none (by kernel_rfl))) (enters (fn := Proofs.Try.f134) (by kernel_rfl) (by kernel_rfl) (by kernel_rfl)) (fun _ => rfl) (ev71q k) hy
theorem Rl71q : EntryLocal R71q.2 := entry_local (S := fun k (d : AD as71q) => fits_over k d.1 d.2.1)

/-! ### giro/acct.Kept -/
noncomputable def E72q : Env := ⟨Proofs.Try.prog, fun _ => false, sumsOf []⟩
def A72q : Notes := ⟨[], []⟩
theorem Eo72q : EnvOK E72q := ⟨eqOK_none, sumsOf_ok (List.forall_mem_nil _)⟩
theorem El72q : SumsLocal E72q.sums := sumsOf_local (List.forall_mem_nil _)
def as72q : List AS := [.agg [.int .i64, .int .i64, .int .i64], .c (.int .i64)]
def rs72q : RS := .c (.int .i64)
def pk72q : Int → RL rs72q.cells := fun x => (x, ())
def up72q : RL rs72q.cells → Int := fun d => d.1
def R72q : Nat × Entry := (121, fun k nm args h => entry as72q rs72q (fun d => acct_Kept k d.1 d.2.1 d.2.2.1 d.2.2.2.1) pk72q nm args h)
theorem ev72q (k : Nat) (d : AD as72q) : evF E72q A72q k 1000 0 Proofs.Try.f121 (absArgs as72q d).1 (absArgs as72q d).2 (outM rs72q up72q) = acct_Kept k d.1 d.2.1 d.2.2.1 d.2.2.2.1 := by
  obtain ⟨_, _, _, _, _⟩ := d
  kernel_rfl
theorem Ro72q : EntryOK Proofs.Try.prog R72q := fun k _ _ _ _ _ hy =>
  entry_sound (unpack := up72q) (A := A72q) (k := k) (pre := 1000) (na := 0) (E := E72q) Eo72q El72q mixed_orders (f := 121) (fn := Proofs.Try.f121) (by kernel_rfl) (body_loops (loopsOK_none (by kernel_rfl))) (enters (fn := Proofs.Try.f121) (by kernel_rfl) (by kernel_rfl) (by kernel_rfl)) (fun _ => rfl) (ev72q k) hy
theorem Rl72q : EntryLocal R72q.2 := entry_local (S := fun k (d : AD as72q) => acct_Kept k d.1 d.2.1 d.2.2.1 d.2.2.2.1)

/-! ### (giro/fits.move).isShort$1 -/
noncomputable def E73q : Env := ⟨Proofs.Try.prog, fun _ => false, sumsOf [R72q, R71q]⟩
def A73q : Notes := ⟨[], []⟩
theorem Eo73q : EnvOK E73q := ⟨eqOK_none, sumsOf_ok (List.forall_mem_cons.2 ⟨Ro72q, List.forall_mem_cons.2 ⟨Ro71q, List.forall_mem_nil _⟩⟩)⟩
theorem El73q : SumsLocal E73q.sums := sumsOf_local (List.forall_mem_cons.2 ⟨Rl72q, List.forall_mem_cons.2 ⟨Rl71q, List.forall_mem_nil _⟩⟩)
def as73q : List AS := [.agg [.int .i64, .int .i64, .int .i64, .int .i64, .int .i64, .int .i64, .int .i64], .ptr [.int .i64], .ptr [.int .i64, .int .i64, .int .i64], .ptr [.dat false (.int .i64), .dat false (.int .i64), .dat false (.sl (.int .i64))], .ptr [.int .i64], .ptr [.dat false y3q, .dat false (.sl (.int .i64)), .dat false (.int .i64), .dat false (.sl (.int .i64))]]
def rs73q : RS := .c (.bool)
def pk73q : Bool → RL rs73q.cells := fun x => (x, ())
def up73q : RL rs73q.cells → Bool := fun d => d.1
def R73q : Nat × Entry := (135, fun k nm args h => entry as73q rs73q (fun d => fits_move_isShort_fn1 k d.1 d.2.1 d.2.2.1 d.2.2.2.1 d.2.2.2.2.1 d.2.2.2.2.2.1 d.2.2.2.2.2.2.1 d.2.2.2.2.2.2.2.1 d.2.2.2.2.2.2.2.2.1 d.2.2.2.2.2.2.2.2.2.1 d.2.2.2.2.2.2.2.2.2.2.1 d.2.2.2.2.2.2.2.2.2.2.2.1 d.2.2.2.2.2.2.2.2.2.2.2.2.1 d.2.2.2.2.2.2.2.2.2.2.2.2.2.1 d.2.2.2.2.2.2.2.2.2.2.2.2.2.2.1 d.2.2.2.2.2.2.2.2.2.2.2.2.2.2.2.1 d.2.2.2.2.2.2.2.2.2.2.2.2.2.2.2.2.1 d.2.2.2.2.2.2.2.2.2.2.2.2.2.2.2.2.2.1 d.2.2.2.2.2.2.2.2.2.2.2.2.2.2.2.2.2.2.1) pk73q nm args h)
theorem ev73q (k : Nat) (d : AD as73q) : evF E73q A73q k 1000 0 Proofs.Try.f135 (absArgs as73q d).1 (absArgs as73q d).2 (outM rs73q up73q) = fits_move_isShort_fn1 k d.1 d.2.1 d.2.2.1 d.2.2.2.1 d.2.2.2.2.1 d.2.2.2.2.2.1 d.2.2.2.2.2.2.1 d.2.2.2.2.2.2.2.1 d.2.2.2.2.2.2.2.2.1 d.2.2.2.2.2.2.2.2.2.1 d.2.2.2.2.2.2.2.2.2.2.1 d.2.2.2.2.2.2.2.2.2.2.2.1 d.2.2.2.2.2.2.2.2.2.2.2.2.1 d.2.2.2.2.2.2.2.2.2.2.2.2.2.1 d.2.2.2.2.2.2.2.2.2.2.2.2.2.2.1 d.2.2.2.2.2.2.2.2.2.2.2.2.2.2.2.1 d.2.2.2.2.2.2.2.2.2.2.2.2.2.2.2.2.1 d.2.2.2.2.2.2.2.2.2.2.2.2.2.2.2.2.2.1 d.2.2.2.2.2.2.2.2.2.2.2.2.2.2.2.2.2.2.1 := by
  obtain ⟨_, _, _, _, _, _, _, _, _, _, _, _, _, _, _, _, _, _, _, _⟩ := d
  kernel_rfl
theorem Ro73q : EntryOK Proofs.Try.prog R73q := fun k _ _ _ _ _ hy =>
  entry_sound (unpack := up73q) (A := A73q) (k := k) (pre := 1000) (na := 0) (E := E73q) Eo73q El73q mixed_orders (f := 135) (fn := Proofs.Try.f135) (by kernel_rfl) (body_loops (loopsOK_none (by kernel_rfl))) (enters (fn := Proofs.Try.f135) (by kernel_rfl) (by kernel_rfl) (by kernel_rfl)) (fun _ => rfl) (ev73q k) hy
theorem Rl73q : EntryLocal R73q.2 := entry_local (S := fun k (d : AD as73q) => fits_move_isShort_fn1 k d.1 d.2.1 d.2.2.1 d.2.2.2.1 d.2.2.2.2.1 d.2.2.2.2.2.1 d.2.2.2.2.2.2.1 d.2.2.2.2.2.2.2.1 d.2.2.2.2.2.2.2.2.1 d.2.2.2.2.2.2.2.2.2.1 d.2.2.2.2.2.2.2.2.2.2.1 d.2.2.2.2.2.2.2.2.2.2.2.1 d.2.2.2.2.2.2.2.2.2.2.2.2.1 d.2.2.2.2.2.2.2.2.2.2.2.2.2.1 d.2.2.2.2.2.2.2.2.2.2.2.2.2.2.1 d.2.2.2.2.2.2.2.2.2.2.2.2.2.2.2.1 d.2.2.2.2.2.2.2.2.2.2.2.2.2.2.2.2.1 d.2.2.2.2.2.2.2.2.2.2.2.2.2.2.2.2.2.1 d.2.2.2.2.2.2.2.2.2.2.2.2.2.2.2.2.2.2.1)

/-! ### slices.IndexFunc[[]giro/api.Pay,giro/api.Pay] -/
noncomputable def E74q : Env := ⟨Proofs.Try.prog, fun _ => false, sumsOf [R73q]⟩
def I74_0q : Spec := ⟨[(0, .c (.dat false (.pair (.int .i64) (.pair (.int .i64) (.pair (.int .i64) (.pair (.int .i64) y3q)))))), (1, .c (.lit (.fn 135 [1001000, 1001001, 1001002, 1001003, 1001004]))), (7, .c (.int .i64)), (8, .c (.int .i64))], [.robox [.int .i64], .robox [.int .i64, .int .i64, .int .i64], .robox [.dat false (.int .i64), .dat false (.int .i64), .dat false (.sl (.int .i64))], .robox [.int .i64], .robox [.dat false y3q, .dat false (.sl (.int .i64)), .dat false (.int .i64), .dat false (.sl (.int .i64))]], []⟩
def X0_74_0q : Spec := ⟨[], [], []⟩
def X1_74_0q : Spec := ⟨[(4, .c (.int .i64))], [], []⟩
def O74_0q : List (Ex × Spec) := [(.exit 0, X0_74_0q), (.ret, X1_74_0q)]
abbrev Z74_0q : Type := Unit ⊕ Int
def c74_0q (f : List K1q → Int → Int → Int → Int → Int → Int → List Int → List Int → List (List Int) → Int → List K2q → List (List Int) → List Int → List (List Int) → Option Z74_0q) (d : I74_0q.den) : Option Z74_0q := f d.1.1.1 d.1.2.2.1.1 d.1.2.2.2.1.1 d.2.1.1 d.2.2.1.1 d.2.2.1.2.1 d.2.2.1.2.2.1 d.2.2.2.1.1 d.2.2.2.1.2.1 d.2.2.2.1.2.2.1 d.2.2.2.2.1.1 d.2.2.2.2.2.1.1 d.2.2.2.2.2.1.2.1 d.2.2.2.2.2.1.2.2.1 d.2.2.2.2.2.1.2.2.2.1
def T74_0q : OutD O74_0q → Z74_0q
 | .inl d => .inl ()
 | .inr d => .inr d.1.1.1
def e74_0q (base : Nat) (x : Z74_0q) (R : Type) (K : Ex → St → Option R) : Option R := match x with
 | .inl x => K (.exit 0) (stOf base X0_74_0q ((), ()))
 | .inr x => K .ret (stOf base X1_74_0q (((x, ()), ()), ()))
def L74_0q : LoopSum := ⟨I74_0q, O74_0q, Z74_0q, fun k d => c74_0q (slices_IndexFunc_Pay__fits_move_isShort_fn1_L0 k k) d, e74_0q⟩
def A74q : Notes := ⟨[], [(2, L74_0q)]⟩
theorem Eo74q : EnvOK E74q := ⟨eqOK_none, sumsOf_ok (List.forall_mem_cons.2 ⟨Ro73q, List.forall_mem_nil _⟩)⟩
theorem El74q : SumsLocal E74q.sums := sumsOf_local (List.forall_mem_cons.2 ⟨Rl73q, List.forall_mem_nil _⟩)
theorem st74_0q (k : Nat) (rec : List K1q → Int → Int → Int → Int → Int → Int → List Int → List Int → List (List Int) → Int → List K2q → List (List Int) → List Int → List (List Int) → Option Z74_0q) (d : I74_0q.den) : c74_0q (slices_IndexFunc_Pay__fits_move_isShort_fn1_L0b k rec) d = evC E74q A74q k 1000 0 19 (loopAt (bodyOf Proofs.Try.f122) 0) (stOf (1000 + loopBase) I74_0q d) (roundK 1000 I74_0q O74_0q T74_0q (c74_0q rec)) := by
  obtain ⟨⟨⟨_, _⟩, _, ⟨_, _⟩, ⟨_, _⟩, _⟩, ⟨⟨_, _⟩, ⟨_, _, _, _⟩, ⟨_, _, _, _⟩, ⟨_, _⟩, ⟨_, _, _, _, _⟩, _⟩⟩ := d
  kernel_rfl
theorem lk74_0q : LoopOK Proofs.Try.prog 1000 0 19 (loopAt (bodyOf Proofs.Try.f122) 0) L74_0q :=
  loop_sound (A := A74q) (inS := I74_0q) (outs := O74_0q) Eo74q El74q mixed_orders (loopsOK_none (by kernel_rfl)) T74_0q e74_0q (by intro o R K; rcases o with o | o <;> rfl) (fun k n d => c74_0q (slices_IndexFunc_Pay__fits_move_isShort_fn1_L0 k n) d) (fun _ _ => rfl) (fun k n d => st74_0q k (slices_IndexFunc_Pay__fits_move_isShort_fn1_L0 k n) d)
def as74q : List AS := [.c (.dat false (.pair (.int .i64) (.pair (.int .i64) (.pair (.int .i64) (.pair (.int .i64) y3q))))), .fn 135 [[.int .i64], [.int .i64, .int .i64, .int .i64], [.dat false (.int .i64), .dat false (.int .i64), .dat false (.sl (.int .i64))], [.int .i64], [.dat false y3q, .dat false (.sl (.int .i64)), .dat false (.int .i64), .dat false (.sl (.int .i64))]]]
def rs74q : RS := .c (.int .i64)
def pk74q : Int → RL rs74q.cells := fun x => (x, ())
def up74q : RL rs74q.cells → Int := fun d => d.1
def R74q : Nat × Entry := (122, fun k nm args h => entry as74q rs74q (fun d => slices_IndexFunc_Pay__fits_move_isShort_fn1 k d.1 d.2.1 d.2.2.1 d.2.2.2.1 d.2.2.2.2.1 d.2.2.2.2.2.1 d.2.2.2.2.2.2.1 d.2.2.2.2.2.2.2.1 d.2.2.2.2.2.2.2.2.1 d.2.2.2.2.2.2.2.2.2.1 d.2.2.2.2.2.2.2.2.2.2.1 d.2.2.2.2.2.2.2.2.2.2.2.1 d.2.2.2.2.2.2.2.2.2.2.2.2.1) pk74q nm args h)
theorem ev74q (k : Nat) (d : AD as74q) : evF E74q A74q k 1000 0 Proofs.Try.f122 (absArgs as74q d).1 (absArgs as74q d).2 (outM rs74q up74q) = slices_IndexFunc_Pay__fits_move_isShort_fn1 k d.1 d.2.1 d.2.2.1 d.2.2.2.1 d.2.2.2.2.1 d.2.2.2.2.2.1 d.2.2.2.2.2.2.1 d.2.2.2.2.2.2.2.1 d.2.2.2.2.2.2.2.2.1 d.2.2.2.2.2.2.2.2.2.1 d.2.2.2.2.2.2.2.2.2.2.1 d.2.2.2.2.2.2.2.2.2.2.2.1 d.2.2.2.2.2.2.2.2.2.2.2.2.1 := by
  obtain ⟨_, _, _, _, _, _, _, _, _, _, _, _, _, _⟩ := d
  kernel_rfl
theorem Ro74q : EntryOK Proofs.Try.prog R74q := fun k _ _ _ _ _ hy =>
  entry_sound (unpack := up74q) (A := A74q) (k := k) (pre := 1000) (na := 0) (E := E74q) Eo74q El74q mixed_orders (f := 122) (fn := Proofs.Try.f122) (by kernel_rfl) (body_loops (loopsOK_of (n := 1) (by kernel_rfl) fun i hi => match i, hi with | 0, _ => ⟨L74_0q, by kernel_rfl, lk74_0q⟩ | i + 1, hi => absurd hi (by omega))) (enters (fn := Proofs.Try.f122) (by kernel_rfl) (by kernel_rfl) (by kernel_rfl)) (fun _ => rfl) (ev74q k) hy
theorem Rl74q : EntryLocal R74q.2 := entry_local (S := fun k (d : AD as74q) => slices_IndexFunc_Pay__fits_move_isShort_fn1 k d.1 d.2.1 d.2.2.1 d.2.2.2.1 d.2.2.2.2.1 d.2.2.2.2.2.1 d.2.2.2.2.2.2.1 d.2.2.2.2.2.2.2.1 d.2.2.2.2.2.2.2.2.1 d.2.2.2.2.2.2.2.2.2.1 d.2.2.2.2.2.2.2.2.2.2.1 d.2.2.2.2.2.2.2.2.2.2.2.1 d.2.2.2.2.2.2.2.2.2.2.2.2.1)

/-! ### slices.ContainsFunc[[]giro/api.Pay,giro/api.Pay] -/
noncomputable def E75q : Env := ⟨Proofs.Try.prog, fun _ => false, sumsOf [R74q]⟩
def A75q : Notes := ⟨[], []⟩
theorem Eo75q : EnvOK E75q := ⟨eqOK_none, sumsOf_ok (List.forall_mem_cons.2 ⟨Ro74q, List.forall_mem_nil _⟩)⟩
theorem El75q : SumsLocal E75q.sums := sumsOf_local (List.forall_mem_cons.2 ⟨Rl74q, List.forall_mem_nil _⟩)
def as75q : List AS := [.c (.dat false (.pair (.int .i64) (.pair (.int .i64) (.pair (.int .i64) (.pair (.int .i64) y3q))))), .fn 135 [[.int .i64], [.int .i64, .int .i64, .int .i64], [.dat false (.int .i64), .dat false (.int .i64), .dat false (.sl (.int .i64))], [.int .i64], [.dat false y3q, .dat false (.sl (.int .i64)), .dat false (.int .i64), .dat false (.sl (.int .i64))]]]
def rs75q : RS := .c (.bool)
def pk75q : Bool → RL rs75q.cells := fun x => (x, ())
def up75q : RL rs75q.cells → Bool := fun d => d.1
def R75q : Nat × Entry := (116, fun k nm args h => entry as75q rs75q (fun d => slices_ContainsFunc_Pay__fits_move_isShort_fn1 k d.1 d.2.1 d.2.2.1 d.2.2.2.1 d.2.2.2.2.1 d.2.2.2.2.2.1 d.2.2.2.2.2.2.1 d.2.2.2.2.2.2.2.1 d.2.2.2.2.2.2.2.2.1 d.2.2.2.2.2.2.2.2.2.1 d.2.2.2.2.2.2.2.2.2.2.1 d.2.2.2.2.2.2.2.2.2.2.2.1 d.2.2.2.2.2.2.2.2.2.2.2.2.1) pk75q nm args h)
theorem ev75q (k : Nat) (d : AD as75q) : evF E75q A75q k 1000 0 Proofs.Try.f116 (absArgs as75q d).1 (absArgs as75q d).2 (outM rs75q up75q) = slices_ContainsFunc_Pay__fits_move_isShort_fn1 k d.1 d.2.1 d.2.2.1 d.2.2.2.1 d.2.2.2.2.1 d.2.2.2.2.2.1 d.2.2.2.2.2.2.1 d.2.2.2.2.2.2.2.1 d.2.2.2.2.2.2.2.2.1 d.2.2.2.2.2.2.2.2.2.1 d.2.2.2.2.2.2.2.2.2.2.1 d.2.2.2.2.2.2.2.2.2.2.2.1 d.2.2.2.2.2.2.2.2.2.2.2.2.1 := by
  obtain ⟨_, _, _, _, _, _, _, _, _, _, _, _, _, _⟩ := d
  kernel_rfl
theorem Ro75q : EntryOK Proofs.Try.prog R75q := fun k _ _ _ _ _ hy =>
  entry_sound (unpack := up75q) (A := A75q) (k := k) (pre := 1000) (na := 0) (E := E75q) Eo75q El75q mixed_orders (f := 116) (fn := Proofs.Try.f116) (by kernel_rfl) (body_loops (loopsOK_none (by kernel_rfl))) (enters (fn := Proofs.Try.f116) (by kernel_rfl) (by kernel_rfl) (by kernel_rfl)) (fun _ => rfl) (ev75q k) hy
theorem Rl75q : EntryLocal R75q.2 := entry_local (S := fun k (d : AD as75q) => slices_ContainsFunc_Pay__fits_move_isShort_fn1 k d.1 d.2.1 d.2.2.1 d.2.2.2.1 d.2.2.2.2.1 d.2.2.2.2.2.1 d.2.2.2.2.2.2.1 d.2.2.2.2.2.2.2.1 d.2.2.2.2.2.2.2.2.1 d.2.2.2.2.2.2.2.2.2.1 d.2.2.2.2.2.2.2.2.2.2.1 d.2.2.2.2.2.2.2.2.2.2.2.1 d.2.2.2.2.2.2.2.2.2.2.2.2.1)

/-! ### (giro/fits.move).isShort -/
noncomputable def E76q : Env := ⟨Proofs.Try.prog, fun _ => false, sumsOf [R4q, R71q, R75q]⟩
def I76_0q : Spec := ⟨[(3, .c (.dat false (.pair (.int .i64) (.pair (.int .i64) (.pair (.int .i64) (.pair (.int .i64) y3q)))))), (4, .c (.lit (.ptr 1001000 0))), (5, .c (.lit (.ptr 1001001 0))), (6, .c (.lit (.ptr 1001002 0))), (9, .c (.lit (.ptr 1001003 0))), (10, .c (.lit (.ptr 1001004 0))), (11, .c (.int .i64)), (39, .c (.dat false (.int .i64))), (40, .c (.int .i64)), (41, .c (.int .i64))], [.box true [.dat false (.int .i64), .dat false (.int .i64), .dat false (.sl (.int .i64))], .box true [.dat false y3q, .dat false (.sl (.int .i64)), .dat false (.int .i64), .dat false (.sl (.int .i64))], .box true [.int .i64], .box true [.int .i64, .int .i64, .int .i64], .box true [.int .i64]], []⟩
def X0_76_0q : Spec := ⟨[(3, .c (.dat false (.pair (.int .i64) (.pair (.int .i64) (.pair (.int .i64) (.pair (.int .i64) y3q)))))), (4, .c (.lit (.ptr 1001000 0))), (5, .c (.lit (.ptr 1001001 0))), (6, .c (.lit (.ptr 1001002 0))), (9, .c (.lit (.ptr 1001003 0))), (10, .c (.lit (.ptr 1001004 0))), (11, .c (.int .i64))], [.box true [.dat false (.int .i64), .dat false (.int .i64), .dat false (.sl (.int .i64))], .box true [.dat false y3q, .dat false (.sl (.int .i64)), .dat false (.int .i64), .dat false (.sl (.int .i64))], .box true [.int .i64], .box true [.int .i64, .int .i64, .int .i64], .box true [.int .i64]], []⟩
def O76_0q : List (Ex × Spec) := [(.exit 0, X0_76_0q)]
abbrev Z76_0q : Type := (List K1q) × Int × (List Int) × (List Int) × (List (List Int)) × (List K2q) × (List (List Int)) × (List Int) × (List (List Int)) × Int × Int × Int × Int × Int
def c76_0q (f : List K1q → Int → List Int → Int → Int → List Int → List Int → List (List Int) → List K2q → List (List Int) → List Int → List (List Int) → Int → Int → Int → Int → Int → Option Z76_0q) (d : I76_0q.den) : Option Z76_0q := f d.1.1.1 d.1.2.2.2.2.2.2.1.1 d.1.2.2.2.2.2.2.2.1.1 d.1.2.2.2.2.2.2.2.2.1.1 d.1.2.2.2.2.2.2.2.2.2.1.1 d.2.1.1 d.2.1.2.1 d.2.1.2.2.1 d.2.2.1.1 d.2.2.1.2.1 d.2.2.1.2.2.1 d.2.2.1.2.2.2.1 d.2.2.2.1.1 d.2.2.2.2.1.1 d.2.2.2.2.1.2.1 d.2.2.2.2.1.2.2.1 d.2.2.2.2.2.1.1
def T76_0q : OutD O76_0q → Z76_0q := fun d => (d.1.1.1, d.1.2.2.2.2.2.2.1.1, d.2.1.1, d.2.1.2.1, d.2.1.2.2.1, d.2.2.1.1, d.2.2.1.2.1, d.2.2.1.2.2.1, d.2.2.1.2.2.2.1, d.2.2.2.1.1, d.2.2.2.2.1.1, d.2.2.2.2.1.2.1, d.2.2.2.2.1.2.2.1, d.2.2.2.2.2.1.1)
def e76_0q (base : Nat) (x : Z76_0q) (R : Type) (K : Ex → St → Option R) : Option R := K (.exit 0) (stOf base X0_76_0q (((x.1, ()), (), (), (), (), (), (x.2.1, ()), ()), ((x.2.2.1, x.2.2.2.1, x.2.2.2.2.1, ()), (x.2.2.2.2.2.1, x.2.2.2.2.2.2.1, x.2.2.2.2.2.2.2.1, x.2.2.2.2.2.2.2.2.1, ()), (x.2.2.2.2.2.2.2.2.2.1, ()), (x.2.2.2.2.2.2.2.2.2.2.1, x.2.2.2.2.2.2.2.2.2.2.2.1, x.2.2.2.2.2.2.2.2.2.2.2.2.1, ()), (x.2.2.2.2.2.2.2.2.2.2.2.2.2, ()), ())))
def L76_0q : LoopSum := ⟨I76_0q, O76_0q, Z76_0q, fun k d => c76_0q (fits_move_isShort_L0 k k) d, e76_0q⟩
def A76q : Notes := ⟨[], [(7, L76_0q)]⟩
theorem Eo76q : EnvOK E76q := ⟨eqOK_none, sumsOf_ok (List.forall_mem_cons.2 ⟨Ro4q, List.forall_mem_cons.2 ⟨Ro71q, List.forall_mem_cons.2 ⟨Ro75q, List.forall_mem_nil _⟩⟩⟩)⟩
theorem El76q : SumsLocal E76q.sums := sumsOf_local (List.forall_mem_cons.2 ⟨Rl4q, List.forall_mem_cons.2 ⟨Rl71q, List.forall_mem_cons.2 ⟨Rl75q, List.forall_mem_nil _⟩⟩⟩)
theorem st76_0q (k : Nat) (rec : List K1q → Int → List Int → Int → Int → List Int → List Int → List (List Int) → List K2q → List (List Int) → List Int → List (List Int) → Int → Int → Int → Int → Int → Option Z76_0q) (d : I76_0q.den) : c76_0q (fits_move_isShort_L0b k rec) d = evC E76q A76q k 1000 0 59 (loopAt (bodyOf Proofs.Try.f132) 0) (stOf (1000 + loopBase) I76_0q d) (roundK 1000 I76_0q O76_0q T76_0q (c76_0q rec)) := by
  obtain ⟨⟨⟨_, _⟩, _, _, _, _, _, ⟨_, _⟩, ⟨_, _⟩, ⟨_, _⟩, ⟨_, _⟩, _⟩, ⟨⟨_, _, _, _⟩, ⟨_, _, _, _, _⟩, ⟨_, _⟩, ⟨_, _, _, _⟩, ⟨_, _⟩, _⟩⟩ := d
  kernel_rfl
theorem lk76_0q : LoopOK Proofs.Try.prog 1000 0 59 (loopAt (bodyOf Proofs.Try.f132) 0) L76_0q :=
  loop_sound (A := A76q) (inS := I76_0q) (outs := O76_0q) Eo76q El76q mixed_orders (loopsOK_none (by kernel_rfl)) T76_0q e76_0q (fun _ _ _ => rfl) (fun k n d => c76_0q (fits_move_isShort_L0 k n) d) (fun _ _ => rfl) (fun k n d => st76_0q k (fits_move_isShort_L0 k n) d)
def as76q : List AS := [.agg [.dat false (.int .i64), .dat false (.int .i64), .dat false (.sl (.int .i64))], .agg [.dat false y3q, .dat false (.sl (.int .i64)), .dat false (.int .i64), .dat false (.sl (.int .i64))], .c (.int .i64), .c (.dat false (.pair (.int .i64) (.pair (.int .i64) (.pair (.int .i64) (.pair (.int .i64) y3q)))))]
def rs76q : RS := .c (.bool)
def pk76q : Bool → RL rs76q.cells := fun x => (x, ())
def up76q : RL rs76q.cells → Bool := fun d => d.1
def R76q : Nat × Entry := (132, fun k nm args h => entry as76q rs76q (fun d => fits_move_isShort k d.1 d.2.1 d.2.2.1 d.2.2.2.1 d.2.2.2.2.1 d.2.2.2.2.2.1 d.2.2.2.2.2.2.1 d.2.2.2.2.2.2.2.1 d.2.2.2.2.2.2.2.2.1) pk76q nm args h)
theorem ev76q (k : Nat) (d : AD as76q) : evF E76q A76q k 1000 0 Proofs.Try.f132 (absArgs as76q d).1 (absArgs as76q d).2 (outM rs76q up76q) = fits_move_isShort k d.1 d.2.1 d.2.2.1 d.2.2.2.1 d.2.2.2.2.1 d.2.2.2.2.2.1 d.2.2.2.2.2.2.1 d.2.2.2.2.2.2.2.1 d.2.2.2.2.2.2.2.2.1 := by
  obtain ⟨_, _, _, _, _, _, _, _, _, _⟩ := d
  kernel_rfl
theorem Ro76q : EntryOK Proofs.Try.prog R76q := fun k _ _ _ _ _ hy =>
  entry_sound (unpack := up76q) (A := A76q) (k := k) (pre := 1000) (na := 0) (E := E76q) Eo76q El76q mixed_orders (f := 132) (fn := Proofs.Try.f132) (by kernel_rfl) (body_loops (loopsOK_of (n := 1) (by kernel_rfl) fun i hi => match i, hi with | 0, _ => ⟨L76_0q, by kernel_rfl, lk76_0q⟩ | i + 1, hi => absurd hi (by omega))) (enters (fn := Proofs.Try.f132) (by kernel_rfl) (by kernel_rfl) (by kernel_rfl)) (fun _ => rfl) (ev76q k) hy
theorem Rl76q : EntryLocal R76q.2 := entry_local (S := fun k (d : AD as76q) => fits_move_isShort k d.1 d.2.1 d.2.2.1 d.2.2.2.1 d.2.2.2.2.1 d.2.2.2.2.2.1 d.2.2.2.2.2.2.1 d.2.2.2.2.2.2.2.1 d.2.2.2.2.2.2.2.2.1)

/-! ### giro/fits.Short -/
noncomputable def E77q : Env := ⟨Proofs.Try.prog, fun _ => false, sumsOf [R67q, R70q, R76q]⟩
def I77_0q : Spec := ⟨[(1, .c (.dat false (.pair (.int .i64) (.pair (.int .i64) (.pair (.int .i64) (.pair (.int .i64) y3q)))))), (2, .c (.lit (.ptr 1001000 0))), (5, .c (.lit (.ptr 1001001 0))), (6, .c (.lit (.osl 1001005 none))), (16, .c (.int .i64)), (17, .c (.int .i64))], [.box true [.dat false y3q, .dat false (.sl (.int .i64)), .dat false (.int .i64), .dat false (.sl (.int .i64))], .box true [.lit (.osl 1001002 none), .lit (.osl 1001003 none), .lit (.osl 1001004 none)], .arr true (.int .i64), .arr true (.int .i64), .mat, .arr true (.int .i64)], [(6, none, (.int .i64), false)]⟩
def X0_77_0q : Spec := ⟨[(6, .c (.lit (.osl 1001000 none)))], [.arr true (.int .i64)], []⟩
def O77_0q : List (Ex × Spec) := [(.exit 0, X0_77_0q)]
abbrev Z77_0q : Type := List Int
def c77_0q (f : List K1q → Int → Int → List K2q → List (List Int) → List Int → List (List Int) → List Int → List Int → List (List Int) → List Int → Option Z77_0q) (d : I77_0q.den) : Option Z77_0q := f d.1.1.1 d.1.2.2.2.2.1.1 d.1.2.2.2.2.2.1.1 d.2.1.1 d.2.1.2.1 d.2.1.2.2.1 d.2.1.2.2.2.1 d.2.2.2.1 d.2.2.2.2.1 d.2.2.2.2.2.1 d.2.2.2.2.2.2.1
def T77_0q : OutD O77_0q → Z77_0q := fun d => d.2.1
def e77_0q (base : Nat) (x : Z77_0q) (R : Type) (K : Ex → St → Option R) : Option R := K (.exit 0) (stOf base X0_77_0q (((), ()), (x, ())))
def L77_0q : LoopSum := ⟨I77_0q, O77_0q, Z77_0q, fun k d => c77_0q (fits_Short_L0 k k) d, e77_0q⟩
def A77q : Notes := ⟨[], [(4, L77_0q)]⟩
theorem Eo77q : EnvOK E77q := ⟨eqOK_none, sumsOf_ok (List.forall_mem_cons.2 ⟨Ro67q, List.forall_mem_cons.2 ⟨Ro70q, List.forall_mem_cons.2 ⟨Ro76q, List.forall_mem_nil _⟩⟩⟩)⟩
theorem El77q : SumsLocal E77q.sums := sumsOf_local (List.forall_mem_cons.2 ⟨Rl67q, List.forall_mem_cons.2 ⟨Rl70q, List.forall_mem_cons.2 ⟨Rl76q, List.forall_mem_nil _⟩⟩⟩)
theorem st77_0q (k : Nat) (rec : List K1q → Int → Int → List K2q → List (List Int) → List Int → List (List Int) → List Int → List Int → List (List Int) → List Int → Option Z77_0q) (d : I77_0q.den) : c77_0q (fits_Short_L0b k rec) d = evC E77q A77q k 1000 0 37 (loopAt (bodyOf Proofs.Try.f119) 0) (stOf (1000 + loopBase) I77_0q d) (roundK 1000 I77_0q O77_0q T77_0q (c77_0q rec)) := by
  obtain ⟨⟨⟨_, _⟩, _, _, _, ⟨_, _⟩, ⟨_, _⟩, _⟩, ⟨⟨_, _, _, _, _⟩, _, _, _, _, _, _⟩⟩ := d
  kernel_rfl
theorem lk77_0q : LoopOK Proofs.Try.prog 1000 0 37 (loopAt (bodyOf Proofs.Try.f119) 0) L77_0q :=
  loop_sound (A := A77q) (inS := I77_0q) (outs := O77_0q) Eo77q El77q mixed_orders (loopsOK_none (by kernel_rfl)) T77_0q e77_0q (fun _ _ _ => rfl) (fun k n d => c77_0q (fits_Short_L0 k n) d) (fun _ _ => rfl) (fun k n d => st77_0q k (fits_Short_L0 k n) d)
def as77q : List AS := [.agg [.dat false y3q, .dat false (.sl (.int .i64)), .dat false (.int .i64), .dat false (.sl (.int .i64))], .c (.dat false (.pair (.int .i64) (.pair (.int .i64) (.pair (.int .i64) (.pair (.int .i64) y3q)))))]
def rs77q : RS := .c (.own (.int .i64))
def pk77q : List Int → RL rs77q.cells := fun x => (x, ())
def up77q : RL rs77q.cells → List Int := fun d => d.1
def R77q : Nat × Entry := (119, fun k nm args h => entry as77q rs77q (fun d => fits_Short k d.1 d.2.1 d.2.2.1 d.2.2.2.1 d.2.2.2.2.1) pk77q nm args h)
theorem ev77q (k : Nat) (d : AD as77q) : evF E77q A77q k 1000 0 Proofs.Try.f119 (absArgs as77q d).1 (absArgs as77q d).2 (outM rs77q up77q) = fits_Short k d.1 d.2.1 d.2.2.1 d.2.2.2.1 d.2.2.2.2.1 := by
  obtain ⟨_, _, _, _, _, _⟩ := d
  kernel_rfl
theorem Ro77q : EntryOK Proofs.Try.prog R77q := fun k _ _ _ _ _ hy =>
  entry_sound (unpack := up77q) (A := A77q) (k := k) (pre := 1000) (na := 0) (E := E77q) Eo77q El77q mixed_orders (f := 119) (fn := Proofs.Try.f119) (by kernel_rfl) (body_loops (loopsOK_of (n := 1) (by kernel_rfl) fun i hi => match i, hi with | 0, _ => ⟨L77_0q, by kernel_rfl, lk77_0q⟩ | i + 1, hi => absurd hi (by omega))) (enters (fn := Proofs.Try.f119) (by kernel_rfl) (by kernel_rfl) (by kernel_rfl)) (fun _ => rfl) (ev77q k) hy
theorem Rl77q : EntryLocal R77q.2 := entry_local (S := fun k (d : AD as77q) => fits_Short k d.1 d.2.1 d.2.2.1 d.2.2.2.1 d.2.2.2.2.1)

/-! ### giro/fits.Fits -/
noncomputable def E78q : Env := ⟨Proofs.Try.prog, fun _ => false, sumsOf [R66q, R77q]⟩
def A78q : Notes := ⟨[], []⟩
theorem Eo78q : EnvOK E78q := ⟨eqOK_none, sumsOf_ok (List.forall_mem_cons.2 ⟨Ro66q, List.forall_mem_cons.2 ⟨Ro77q, List.forall_mem_nil _⟩⟩)⟩
theorem El78q : SumsLocal E78q.sums := sumsOf_local (List.forall_mem_cons.2 ⟨Rl66q, List.forall_mem_cons.2 ⟨Rl77q, List.forall_mem_nil _⟩⟩)
def as78q : List AS := [.agg [.dat false y3q, .dat false (.sl (.int .i64)), .dat false (.int .i64), .dat false (.sl (.int .i64))], .c (.dat false (.pair (.int .i64) (.pair (.int .i64) (.pair (.int .i64) (.pair (.int .i64) y3q)))))]
def rs78q : RS := .c (.bool)
def pk78q : Bool → RL rs78q.cells := fun x => (x, ())
def up78q : RL rs78q.cells → Bool := fun d => d.1
def R78q : Nat × Entry := (96, fun k nm args h => entry as78q rs78q (fun d => fits_Fits k d.1 d.2.1 d.2.2.1 d.2.2.2.1 d.2.2.2.2.1) pk78q nm args h)
theorem ev78q (k : Nat) (d : AD as78q) : evF E78q A78q k 1000 0 Proofs.Try.f96 (absArgs as78q d).1 (absArgs as78q d).2 (outM rs78q up78q) = fits_Fits k d.1 d.2.1 d.2.2.1 d.2.2.2.1 d.2.2.2.2.1 := by
  obtain ⟨_, _, _, _, _, _⟩ := d
  kernel_rfl
theorem Ro78q : EntryOK Proofs.Try.prog R78q := fun k _ _ _ _ _ hy =>
  entry_sound (unpack := up78q) (A := A78q) (k := k) (pre := 1000) (na := 0) (E := E78q) Eo78q El78q mixed_orders (f := 96) (fn := Proofs.Try.f96) (by kernel_rfl) (body_loops (loopsOK_none (by kernel_rfl))) (enters (fn := Proofs.Try.f96) (by kernel_rfl) (by kernel_rfl) (by kernel_rfl)) (fun _ => rfl) (ev78q k) hy
theorem Rl78q : EntryLocal R78q.2 := entry_local (S := fun k (d : AD as78q) => fits_Fits k d.1 d.2.1 d.2.2.1 d.2.2.2.1 d.2.2.2.2.1)

/-! ### giro/post.Post$1 -/
noncomputable def E79q : Env := ⟨Proofs.Try.prog, fun _ => false, sumsOf [R63q]⟩
def A79q : Notes := ⟨[], []⟩
theorem Eo79q : EnvOK E79q := ⟨eqOK_none, sumsOf_ok (List.forall_mem_cons.2 ⟨Ro63q, List.forall_mem_nil _⟩)⟩
theorem El79q : SumsLocal E79q.sums := sumsOf_local (List.forall_mem_cons.2 ⟨Rl63q, List.forall_mem_nil _⟩)
def as79q : List AS := [.agg [.int .i64, .int .i64, .int .i64, .int .i64, .int .i64, .int .i64, .int .i64], .ptr [.dat false y3q, .dat false (.sl (.int .i64)), .dat false (.int .i64), .dat false (.sl (.int .i64))]]
def rs79q : RS := .c (.bool)
def pk79q : Bool → RL rs79q.cells := fun x => (x, ())
def up79q : RL rs79q.cells → Bool := fun d => d.1
def R79q : Nat × Entry := (120, fun k nm args h => entry as79q rs79q (fun d => post_Post_fn1 k d.1 d.2.1 d.2.2.1 d.2.2.2.1 d.2.2.2.2.1 d.2.2.2.2.2.1 d.2.2.2.2.2.2.1 d.2.2.2.2.2.2.2.1 d.2.2.2.2.2.2.2.2.1 d.2.2.2.2.2.2.2.2.2.1 d.2.2.2.2.2.2.2.2.2.2.1) pk79q nm args h)
theorem ev79q (k : Nat) (d : AD as79q) : evF E79q A79q k 1000 0 Proofs.Try.f120 (absArgs as79q d).1 (absArgs as79q d).2 (outM rs79q up79q) = post_Post_fn1 k d.1 d.2.1 d.2.2.1 d.2.2.2.1 d.2.2.2.2.1 d.2.2.2.2.2.1 d.2.2.2.2.2.2.1 d.2.2.2.2.2.2.2.1 d.2.2.2.2.2.2.2.2.1 d.2.2.2.2.2.2.2.2.2.1 d.2.2.2.2.2.2.2.2.2.2.1 := by
  obtain ⟨_, _, _, _, _, _, _, _, _, _, _, _⟩ := d
  kernel_rfl
theorem Ro79q : EntryOK Proofs.Try.prog R79q := fun k _ _ _ _ _ hy =>
  entry_sound (unpack := up79q) (A := A79q) (k := k) (pre := 1000) (na := 0) (E := E79q) Eo79q El79q mixed_orders (f := 120) (fn := Proofs.Try.f120) (by kernel_rfl) (body_loops (loopsOK_none (by kernel_rfl))) (enters (fn := Proofs.Try.f120) (by kernel_rfl) (by kernel_rfl) (by kernel_rfl)) (fun _ => rfl) (ev79q k) hy
theorem Rl79q : EntryLocal R79q.2 := entry_local (S := fun k (d : AD as79q) => post_Post_fn1 k d.1 d.2.1 d.2.2.1 d.2.2.2.1 d.2.2.2.2.1 d.2.2.2.2.2.1 d.2.2.2.2.2.2.1 d.2.2.2.2.2.2.2.1 d.2.2.2.2.2.2.2.2.1 d.2.2.2.2.2.2.2.2.2.1 d.2.2.2.2.2.2.2.2.2.2.1)

/-! ### slices.IndexFunc[[]giro/api.Pay,giro/api.Pay] -/
noncomputable def E80q : Env := ⟨Proofs.Try.prog, fun _ => false, sumsOf [R79q]⟩
def I80_0q : Spec := ⟨[(0, .c (.dat false (.pair (.int .i64) (.pair (.int .i64) (.pair (.int .i64) (.pair (.int .i64) y3q)))))), (1, .c (.lit (.fn 120 [1001000]))), (7, .c (.int .i64)), (8, .c (.int .i64))], [.robox [.dat false y3q, .dat false (.sl (.int .i64)), .dat false (.int .i64), .dat false (.sl (.int .i64))]], []⟩
def X0_80_0q : Spec := ⟨[], [], []⟩
def X1_80_0q : Spec := ⟨[(4, .c (.int .i64))], [], []⟩
def O80_0q : List (Ex × Spec) := [(.exit 0, X0_80_0q), (.ret, X1_80_0q)]
abbrev Z80_0q : Type := Unit ⊕ Int
def c80_0q (f : List K1q → Int → Int → List K2q → List (List Int) → List Int → List (List Int) → Option Z80_0q) (d : I80_0q.den) : Option Z80_0q := f d.1.1.1 d.1.2.2.1.1 d.1.2.2.2.1.1 d.2.1.1 d.2.1.2.1 d.2.1.2.2.1 d.2.1.2.2.2.1
def T80_0q : OutD O80_0q → Z80_0q
 | .inl d => .inl ()
 | .inr d => .inr d.1.1.1
def e80_0q (base : Nat) (x : Z80_0q) (R : Type) (K : Ex → St → Option R) : Option R := match x with
 | .inl x => K (.exit 0) (stOf base X0_80_0q ((), ()))
 | .inr x => K .ret (stOf base X1_80_0q (((x, ()), ()), ()))
def L80_0q : LoopSum := ⟨I80_0q, O80_0q, Z80_0q, fun k d => c80_0q (slices_IndexFunc_Pay__post_Post_fn1_L0 k k) d, e80_0q⟩
def A80q : Notes := ⟨[], [(2, L80_0q)]⟩
theorem Eo80q : EnvOK E80q := ⟨eqOK_none, sumsOf_ok (List.forall_mem_cons.2 ⟨Ro79q, List.forall_mem_nil _⟩)⟩
theorem El80q : SumsLocal E80q.sums := sumsOf_local (List.forall_mem_cons.2 ⟨Rl79q, List.forall_mem_nil _⟩)
theorem st80_0q (k : Nat) (rec : List K1q → Int → Int → List K2q → List (List Int) → List Int → List (List Int) → Option Z80_0q) (d : I80_0q.den) : c80_0q (slices_IndexFunc_Pay__post_Post_fn1_L0b k rec) d = evC E80q A80q k 1000 0 19 (loopAt (bodyOf Proofs.Try.f122) 0) (stOf (1000 + loopBase) I80_0q d) (roundK 1000 I80_0q O80_0q T80_0q (c80_0q rec)) := by
  obtain ⟨⟨⟨_, _⟩, _, ⟨_, _⟩, ⟨_, _⟩, _⟩, ⟨⟨_, _, _, _, _⟩, _⟩⟩ := d
  kernel_rfl
theorem lk80_0q : LoopOK Proofs.Try.prog 1000 0 19 (loopAt (bodyOf Proofs.Try.f122) 0) L80_0q :=
  loop_sound (A := A80q) (inS := I80_0q) (outs := O80_0q) Eo80q El80q mixed_orders (loopsOK_none (by kernel_rfl)) T80_0q e80_0q (by intro o R K; rcases o with o | o <;> rfl) (fun k n d => c80_0q (slices_IndexFunc_Pay__post_Post_fn1_L0 k n) d) (fun _ _ => rfl) (fun k n d => st80_0q k (slices_IndexFunc_Pay__post_Post_fn1_L0 k n) d)
def as80q : List AS := [.c (.dat false (.pair (.int .i64) (.pair (.int .i64) (.pair (.int .i64) (.pair (.int .i64) y3q))))), .fn 120 [[.dat false y3q, .dat false (.sl (.int .i64)), .dat false (.int .i64), .dat false (.sl (.int .i64))]]]
def rs80q : RS := .c (.int .i64)
def pk80q : Int → RL rs80q.cells := fun x => (x, ())
def up80q : RL rs80q.cells → Int := fun d => d.1
def R80q : Nat × Entry := (122, fun k nm args h => entry as80q rs80q (fun d => slices_IndexFunc_Pay__post_Post_fn1 k d.1 d.2.1 d.2.2.1 d.2.2.2.1 d.2.2.2.2.1) pk80q nm args h)
theorem ev80q (k : Nat) (d : AD as80q) : evF E80q A80q k 1000 0 Proofs.Try.f122 (absArgs as80q d).1 (absArgs as80q d).2 (outM rs80q up80q) = slices_IndexFunc_Pay__post_Post_fn1 k d.1 d.2.1 d.2.2.1 d.2.2.2.1 d.2.2.2.2.1 := by
  obtain ⟨_, _, _, _, _, _⟩ := d
  kernel_rfl
theorem Ro80q : EntryOK Proofs.Try.prog R80q := fun k _ _ _ _ _ hy =>
  entry_sound (unpack := up80q) (A := A80q) (k := k) (pre := 1000) (na := 0) (E := E80q) Eo80q El80q mixed_orders (f := 122) (fn := Proofs.Try.f122) (by kernel_rfl) (body_loops (loopsOK_of (n := 1) (by kernel_rfl) fun i hi => match i, hi with | 0, _ => ⟨L80_0q, by kernel_rfl, lk80_0q⟩ | i + 1, hi => absurd hi (by omega))) (enters (fn := Proofs.Try.f122) (by kernel_rfl) (by kernel_rfl) (by kernel_rfl)) (fun _ => rfl) (ev80q k) hy
theorem Rl80q : EntryLocal R80q.2 := entry_local (S := fun k (d : AD as80q) => slices_IndexFunc_Pay__post_Post_fn1 k d.1 d.2.1 d.2.2.1 d.2.2.2.1 d.2.2.2.2.1)

/-! ### slices.ContainsFunc[[]giro/api.Pay,giro/api.Pay] -/
noncomputable def E81q : Env := ⟨Proofs.Try.prog, fun _ => false, sumsOf [R80q]⟩
def A81q : Notes := ⟨[], []⟩
theorem Eo81q : EnvOK E81q := ⟨eqOK_none, sumsOf_ok (List.forall_mem_cons.2 ⟨Ro80q, List.forall_mem_nil _⟩)⟩
theorem El81q : SumsLocal E81q.sums := sumsOf_local (List.forall_mem_cons.2 ⟨Rl80q, List.forall_mem_nil _⟩)
def as81q : List AS := [.c (.dat false (.pair (.int .i64) (.pair (.int .i64) (.pair (.int .i64) (.pair (.int .i64) y3q))))), .fn 120 [[.dat false y3q, .dat false (.sl (.int .i64)), .dat false (.int .i64), .dat false (.sl (.int .i64))]]]
def rs81q : RS := .c (.bool)
def pk81q : Bool → RL rs81q.cells := fun x => (x, ())
def up81q : RL rs81q.cells → Bool := fun d => d.1
def R81q : Nat × Entry := (116, fun k nm args h => entry as81q rs81q (fun d => slices_ContainsFunc_Pay__post_Post_fn1 k d.1 d.2.1 d.2.2.1 d.2.2.2.1 d.2.2.2.2.1) pk81q nm args h)
theorem ev81q (k : Nat) (d : AD as81q) : evF E81q A81q k 1000 0 Proofs.Try.f116 (absArgs as81q d).1 (absArgs as81q d).2 (outM rs81q up81q) = slices_ContainsFunc_Pay__post_Post_fn1 k d.1 d.2.1 d.2.2.1 d.2.2.2.1 d.2.2.2.2.1 := by
  obtain ⟨_, _, _, _, _, _⟩ := d
  kernel_rfl
theorem Ro81q : EntryOK Proofs.Try.prog R81q := fun k _ _ _ _ _ hy =>
  entry_sound (unpack := up81q) (A := A81q) (k := k) (pre := 1000) (na := 0) (E := E81q) Eo81q El81q mixed_orders (f := 116) (fn := Proofs.Try.f116) (by kernel_rfl) (body_loops (loopsOK_none (by kernel_rfl))) (enters (fn := Proofs.Try.f116) (by kernel_rfl) (by kernel_rfl) (by kernel_rfl)) (fun _ => rfl) (ev81q k) hy
theorem Rl81q : EntryLocal R81q.2 := entry_local (S := fun k (d : AD as81q) => slices_ContainsFunc_Pay__post_Post_fn1 k d.1 d.2.1 d.2.2.1 d.2.2.2.1 d.2.2.2.2.1)

/-! ### giro/post.Post -/
noncomputable def E82q : Env := ⟨Proofs.Try.prog, fun _ => false, sumsOf [R81q, R34q, R72q, R29q]⟩
def I82_0q : Spec := ⟨[(2, .c (.lit (.ptr 1001000 0))), (4, .c (.lit (.ptr 1001001 0))), (7, .c (.lit (.ptr 1001002 0))), (24, .c (.dat false (.pair (.int .i64) (.pair (.int .i64) (.pair (.int .i64) (.pair (.int .i64) y3q)))))), (25, .c (.int .i64)), (26, .c (.int .i64))], [.box true [.dat true y3q, .dat true (.sl (.int .i64)), .dat true (.int .i64), .dat true (.sl (.int .i64))], .box true [.lit .nsl, .lit .nsl, .lit .nsl, .lit .nsl], .box true [.lit (.osl 1001003 none), .lit (.osl 1001004 none), .lit (.osl 1001005 none), .lit (.osl 1001006 none)], .arr true y3q, .mat, .arr true (.int .i64), .mat], []⟩
def X0_82_0q : Spec := ⟨[(2, .c (.lit (.ptr 1001000 0))), (4, .c (.lit (.ptr 1001001 0))), (7, .c (.lit (.ptr 1001002 0)))], [.box true [.dat true y3q, .dat true (.sl (.int .i64)), .dat true (.int .i64), .dat true (.sl (.int .i64))], .box true [.lit .nsl, .lit .nsl, .lit .nsl, .lit .nsl], .box true [.lit (.osl 1001003 none), .lit (.osl 1001004 none), .lit (.osl 1001005 none), .lit (.osl 1001006 none)], .arr true y3q, .mat, .arr true (.int .i64), .mat], []⟩
def O82_0q : List (Ex × Spec) := [(.exit 0, X0_82_0q)]
abbrev Z82_0q : Type := (List K2q) × (List (List Int)) × (List Int) × (List (List Int)) × (List K2q) × (List (List Int)) × (List Int) × (List (List Int))
def c82_0q (f : List K1q → Int → Int → List K2q → List (List Int) → List Int → List (List Int) → List K2q → List (List Int) → List Int → List (List Int) → Option Z82_0q) (d : I82_0q.den) : Option Z82_0q := f d.1.2.2.2.1.1 d.1.2.2.2.2.1.1 d.1.2.2.2.2.2.1.1 d.2.1.1 d.2.1.2.1 d.2.1.2.2.1 d.2.1.2.2.2.1 d.2.2.2.2.1 d.2.2.2.2.2.1 d.2.2.2.2.2.2.1 d.2.2.2.2.2.2.2.1
def T82_0q : OutD O82_0q → Z82_0q := fun d => (d.2.1.1, d.2.1.2.1, d.2.1.2.2.1, d.2.1.2.2.2.1, d.2.2.2.2.1, d.2.2.2.2.2.1, d.2.2.2.2.2.2.1, d.2.2.2.2.2.2.2.1)
def e82_0q (base : Nat) (x : Z82_0q) (R : Type) (K : Ex → St → Option R) : Option R := K (.exit 0) (stOf base X0_82_0q (((), (), (), ()), ((x.1, x.2.1, x.2.2.1, x.2.2.2.1, ()), (), (), x.2.2.2.2.1, x.2.2.2.2.2.1, x.2.2.2.2.2.2.1, x.2.2.2.2.2.2.2, ())))
def L82_0q : LoopSum := ⟨I82_0q, O82_0q, Z82_0q, fun k d => c82_0q (post_Post_L0 k k) d, e82_0q⟩
def A82q : Notes := ⟨[], [(6, L82_0q)]⟩
theorem Eo82q : EnvOK E82q := ⟨eqOK_none, sumsOf_ok (List.forall_mem_cons.2 ⟨Ro81q, List.forall_mem_cons.2 ⟨Ro34q, List.forall_mem_cons.2 ⟨Ro72q, List.forall_mem_cons.2 ⟨Ro29q, List.forall_mem_nil _⟩⟩⟩⟩)⟩
theorem El82q : SumsLocal E82q.sums := sumsOf_local (List.forall_mem_cons.2 ⟨Rl81q, List.forall_mem_cons.2 ⟨Rl34q, List.forall_mem_cons.2 ⟨Rl72q, List.forall_mem_cons.2 ⟨Rl29q, List.forall_mem_nil _⟩⟩⟩⟩)
theorem st82_0q (k : Nat) (rec : List K1q → Int → Int → List K2q → List (List Int) → List Int → List (List Int) → List K2q → List (List Int) → List Int → List (List Int) → Option Z82_0q) (d : I82_0q.den) : c82_0q (post_Post_L0b k rec) d = evC E82q A82q k 1000 0 104 (loopAt (bodyOf Proofs.Try.f97) 0) (stOf (1000 + loopBase) I82_0q d) (roundK 1000 I82_0q O82_0q T82_0q (c82_0q rec)) := by
  obtain ⟨⟨_, _, _, ⟨_, _⟩, ⟨_, _⟩, ⟨_, _⟩, _⟩, ⟨⟨_, _, _, _, _⟩, _, _, _, _, _, _, _⟩⟩ := d
  kernel_rfl
theorem lk82_0q : LoopOK Proofs.Try.prog 1000 0 104 (loopAt (bodyOf Proofs.Try.f97) 0) L82_0q :=
  loop_sound (A := A82q) (inS := I82_0q) (outs := O82_0q) Eo82q El82q mixed_orders (loopsOK_none (by kernel_rfl)) T82_0q e82_0q (fun _ _ _ => rfl) (fun k n d => c82_0q (post_Post_L0 k n) d) (fun _ _ => rfl) (fun k n d => st82_0q k (post_Post_L0 k n) d)
def as82q : List AS := [.agg [.dat true y3q, .dat true (.sl (.int .i64)), .dat true (.int .i64), .dat true (.sl (.int .i64))], .c (.dat false (.pair (.int .i64) (.pair (.int .i64) (.pair (.int .i64) (.pair (.int .i64) y3q)))))]
def rs82q : RS := .tup [(true, [.fro y3q, .fro (.sl (.int .i64)), .fro (.int .i64), .fro (.sl (.int .i64))]), (false, [.int .i64])]
def pk82q : (List K2q) × (List (List Int)) × (List Int) × (List (List Int)) × Int → RL rs82q.cells := fun x => (x.1, x.2.1, x.2.2.1, x.2.2.2.1, x.2.2.2.2, ())
def up82q : RL rs82q.cells → (List K2q) × (List (List Int)) × (List Int) × (List (List Int)) × Int := fun d => (d.1, d.2.1, d.2.2.1, d.2.2.2.1, d.2.2.2.2.1)
def R82q : Nat × Entry := (97, fun k nm args h => entry as82q rs82q (fun d => post_Post k d.1 d.2.1 d.2.2.1 d.2.2.2.1 d.2.2.2.2.1) pk82q nm args h)
theorem ev82q (k : Nat) (d : AD as82q) : evF E82q A82q k 1000 0 Proofs.Try.f97 (absArgs as82q d).1 (absArgs as82q d).2 (outM rs82q up82q) = post_Post k d.1 d.2.1 d.2.2.1 d.2.2.2.1 d.2.2.2.2.1 := by
  obtain ⟨_, _, _, _, _, _⟩ := d
  kernel_rfl
theorem Ro82q : EntryOK Proofs.Try.prog R82q := fun k _ _ _ _ _ hy =>
  entry_sound (unpack := up82q) (A := A82q) (k := k) (pre := 1000) (na := 0) (E := E82q) Eo82q El82q mixed_orders (f := 97) (fn := Proofs.Try.f97) (by kernel_rfl) (body_loops (loopsOK_of (n := 1) (by kernel_rfl) fun i hi => match i, hi with | 0, _ => ⟨L82_0q, by kernel_rfl, lk82_0q⟩ | i + 1, hi => absurd hi (by omega))) (enters (fn := Proofs.Try.f97) (by kernel_rfl) (by kernel_rfl) (by kernel_rfl)) (fun _ => rfl) (ev82q k) hy
theorem Rl82q : EntryLocal R82q.2 := entry_local (S := fun k (d : AD as82q) => post_Post k d.1 d.2.1 d.2.2.1 d.2.2.2.1 d.2.2.2.2.1)

/-! ### giro/row.Find$1 -/
noncomputable def E84q : Env := ⟨Proofs.Try.prog, fun _ => false, sumsOf []⟩
def A84q : Notes := ⟨[], []⟩
theorem Eo84q : EnvOK E84q := ⟨eqOK_none, sumsOf_ok (List.forall_mem_nil _)⟩
theorem El84q : SumsLocal E84q.sums := sumsOf_local (List.forall_mem_nil _)
def as84q : List AS := [.agg [.int .i64, .int .i64, .int .i64, .int .i64, .int .i64, .int .i64, .int .i64], .ptr [.int .i64]]
def rs84q : RS := .c (.bool)
def pk84q : Bool → RL rs84q.cells := fun x => (x, ())
def up84q : RL rs84q.cells → Bool := fun d => d.1
def R84q : Nat × Entry := (123, fun k nm args h => entry as84q rs84q (fun d => row_Find_fn1 k d.1 d.2.1 d.2.2.1 d.2.2.2.1 d.2.2.2.2.1 d.2.2.2.2.2.1 d.2.2.2.2.2.2.1 d.2.2.2.2.2.2.2.1) pk84q nm args h)
theorem ev84q (k : Nat) (d : AD as84q) : evF E84q A84q k 1000 0 Proofs.Try.f123 (absArgs as84q d).1 (absArgs as84q d).2 (outM rs84q up84q) = row_Find_fn1 k d.1 d.2.1 d.2.2.1 d.2.2.2.1 d.2.2.2.2.1 d.2.2.2.2.2.1 d.2.2.2.2.2.2.1 d.2.2.2.2.2.2.2.1 := by
  obtain ⟨_, _, _, _, _, _, _, _, _⟩ := d
  kernel_rfl
theorem Ro84q : EntryOK Proofs.Try.prog R84q := fun k _ _ _ _ _ hy =>
  entry_sound (unpack := up84q) (A := A84q) (k := k) (pre := 1000) (na := 0) (E := E84q) Eo84q El84q mixed_orders (f := 123) (fn := Proofs.Try.f123) (by kernel_rfl) (body_loops (loopsOK_none (by kernel_rfl))) (enters (fn := Proofs.Try.f123) (by kernel_rfl) (by kernel_rfl) (by kernel_rfl)) (fun _ => rfl) (ev84q k) hy
theorem Rl84q : EntryLocal R84q.2 := entry_local (S := fun k (d : AD as84q) => row_Find_fn1 k d.1 d.2.1 d.2.2.1 d.2.2.2.1 d.2.2.2.2.1 d.2.2.2.2.2.1 d.2.2.2.2.2.2.1 d.2.2.2.2.2.2.2.1)

/-! ### slices.IndexFunc[[]giro/api.Pay,giro/api.Pay] -/
noncomputable def E85q : Env := ⟨Proofs.Try.prog, fun _ => false, sumsOf [R84q]⟩
def I85_0q : Spec := ⟨[(0, .c (.dat false (.pair (.int .i64) (.pair (.int .i64) (.pair (.int .i64) (.pair (.int .i64) y3q)))))), (1, .c (.lit (.fn 123 [1001000]))), (7, .c (.int .i64)), (8, .c (.int .i64))], [.robox [.int .i64]], []⟩
def X0_85_0q : Spec := ⟨[], [], []⟩
def X1_85_0q : Spec := ⟨[(4, .c (.int .i64))], [], []⟩
def O85_0q : List (Ex × Spec) := [(.exit 0, X0_85_0q), (.ret, X1_85_0q)]
abbrev Z85_0q : Type := Unit ⊕ Int
def c85_0q (f : List K1q → Int → Int → Int → Option Z85_0q) (d : I85_0q.den) : Option Z85_0q := f d.1.1.1 d.1.2.2.1.1 d.1.2.2.2.1.1 d.2.1.1
def T85_0q : OutD O85_0q → Z85_0q
 | .inl d => .inl ()
 | .inr d => .inr d.1.1.1
def e85_0q (base : Nat) (x : Z85_0q) (R : Type) (K : Ex → St → Option R) : Option R := match x with
 | .inl x => K (.exit 0) (stOf base X0_85_0q ((), ()))
 | .inr x => K .ret (stOf base X1_85_0q (((x, ()), ()), ()))
def L85_0q : LoopSum := ⟨I85_0q, O85_0q, Z85_0q, fun k d => c85_0q (slices_IndexFunc_Pay__row_Find_fn1_L0 k k) d, e85_0q⟩
def A85q : Notes := ⟨[], [(2, L85_0q)]⟩
theorem Eo85q : EnvOK E85q := ⟨eqOK_none, sumsOf_ok (List.forall_mem_cons.2 ⟨Ro84q, List.forall_mem_nil _⟩)⟩
theorem El85q : SumsLocal E85q.sums := sumsOf_local (List.forall_mem_cons.2 ⟨Rl84q, List.forall_mem_nil _⟩)
theorem st85_0q (k : Nat) (rec : List K1q → Int → Int → Int → Option Z85_0q) (d : I85_0q.den) : c85_0q (slices_IndexFunc_Pay__row_Find_fn1_L0b k rec) d = evC E85q A85q k 1000 0 19 (loopAt (bodyOf Proofs.Try.f122) 0) (stOf (1000 + loopBase) I85_0q d) (roundK 1000 I85_0q O85_0q T85_0q (c85_0q rec)) := by
  obtain ⟨⟨⟨_, _⟩, _, ⟨_, _⟩, ⟨_, _⟩, _⟩, ⟨⟨_, _⟩, _⟩⟩ := d
  kernel_rfl
theorem lk85_0q : LoopOK Proofs.Try.prog 1000 0 19 (loopAt (bodyOf Proofs.Try.f122) 0) L85_0q :=
  loop_sound (A := A85q) (inS := I85_0q) (outs := O85_0q) Eo85q El85q mixed_orders (loopsOK_none (by kernel_rfl)) T85_0q e85_0q (by intro o R K; rcases o with o | o <;> rfl) (fun k n d => c85_0q (slices_IndexFunc_Pay__row_Find_fn1_L0 k n) d) (fun _ _ => rfl) (fun k n d => st85_0q k (slices_IndexFunc_Pay__row_Find_fn1_L0 k n) d)
def as85q : List AS := [.c (.dat false (.pair (.int .i64) (.pair (.int .i64) (.pair (.int .i64) (.pair (.int .i64) y3q))))), .fn 123 [[.int .i64]]]
def rs85q : RS := .c (.int .i64)
def pk85q : Int → RL rs85q.cells := fun x => (x, ())
def up85q : RL rs85q.cells → Int := fun d => d.1
def R85q : Nat × Entry := (122, fun k nm args h => entry as85q rs85q (fun d => slices_IndexFunc_Pay__row_Find_fn1 k d.1 d.2.1) pk85q nm args h)
theorem ev85q (k : Nat) (d : AD as85q) : evF E85q A85q k 1000 0 Proofs.Try.f122 (absArgs as85q d).1 (absArgs as85q d).2 (outM rs85q up85q) = slices_IndexFunc_Pay__row_Find_fn1 k d.1 d.2.1 := by
  obtain ⟨_, _, _⟩ := d
  kernel_rfl
theorem Ro85q : EntryOK Proofs.Try.prog R85q := fun k _ _ _ _ _ hy =>
  entry_sound (unpack := up85q) (A := A85q) (k := k) (pre := 1000) (na := 0) (E := E85q) Eo85q El85q mixed_orders (f := 122) (fn := Proofs.Try.f122) (by kernel_rfl) (body_loops (loopsOK_of (n := 1) (by kernel_rfl) fun i hi => match i, hi with | 0, _ => ⟨L85_0q, by kernel_rfl, lk85_0q⟩ | i + 1, hi => absurd hi (by omega))) (enters (fn := Proofs.Try.f122) (by kernel_rfl) (by kernel_rfl) (by kernel_rfl)) (fun _ => rfl) (ev85q k) hy
theorem Rl85q : EntryLocal R85q.2 := entry_local (S := fun k (d : AD as85q) => slices_IndexFunc_Pay__row_Find_fn1 k d.1 d.2.1)

/-! ### giro/row.Find -/
noncomputable def E86q : Env := ⟨Proofs.Try.prog, fun _ => false, sumsOf [R85q]⟩
def A86q : Notes := ⟨[], []⟩
theorem Eo86q : EnvOK E86q := ⟨eqOK_none, sumsOf_ok (List.forall_mem_cons.2 ⟨Ro85q, List.forall_mem_nil _⟩)⟩
theorem El86q : SumsLocal E86q.sums := sumsOf_local (List.forall_mem_cons.2 ⟨Rl85q, List.forall_mem_nil _⟩)
def as86q : List AS := [.c (.dat false (.pair (.int .i64) (.pair (.int .i64) (.pair (.int .i64) (.pair (.int .i64) y3q))))), .c (.int .i64)]
def rs86q : RS := .c (.int .i64)
def pk86q : Int → RL rs86q.cells := fun x => (x, ())
def up86q : RL rs86q.cells → Int := fun d => d.1
def R86q : Nat × Entry := (98, fun k nm args h => entry as86q rs86q (fun d => row_Find k d.1 d.2.1) pk86q nm args h)
theorem ev86q (k : Nat) (d : AD as86q) : evF E86q A86q k 1000 0 Proofs.Try.f98 (absArgs as86q d).1 (absArgs as86q d).2 (outM rs86q up86q) = row_Find k d.1 d.2.1 := by
  obtain ⟨_, _, _⟩ := d
  kernel_rfl
theorem Ro86q : EntryOK Proofs.Try.prog R86q := fun k _ _ _ _ _ hy =>
  entry_sound (unpack := up86q) (A := A86q) (k := k) (pre := 1000) (na := 0) (E := E86q) Eo86q El86q mixed_orders (f := 98) (fn := Proofs.Try.f98) (by kernel_rfl) (body_loops (loopsOK_none (by kernel_rfl))) (enters (fn := Proofs.Try.f98) (by kernel_rfl) (by kernel_rfl) (by kernel_rfl)) (fun _ => rfl) (ev86q k) hy
theorem Rl86q : EntryLocal R86q.2 := entry_local (S := fun k (d : AD as86q) => row_Find k d.1 d.2.1)

/-! ### slices.Clone[[]giro/api.Pay,giro/api.Pay] -/
noncomputable def E87q : Env := ⟨Proofs.Try.prog, fun _ => false, sumsOf []⟩
def A87q : Notes := ⟨[], []⟩
theorem Eo87q : EnvOK E87q := ⟨eqOK_none, sumsOf_ok (List.forall_mem_nil _)⟩
theorem El87q : SumsLocal E87q.sums := sumsOf_local (List.forall_mem_nil _)
def as87q : List AS := [.c (.dat false (.pair (.int .i64) (.pair (.int .i64) (.pair (.int .i64) (.pair (.int .i64) y3q)))))]
def rs87q : RS := .c (.own (.pair (.int .i64) (.pair (.int .i64) (.pair (.int .i64) (.pair (.int .i64) y3q)))))
def pk87q : List K1q → RL rs87q.cells := fun x => (x, ())
def up87q : RL rs87q.cells → List K1q := fun d => d.1
def R87q : Nat × Entry := (100, fun k nm args h => entry as87q rs87q (fun d => slices_Clone_Pay k d.1) pk87q nm args h)
theorem nil87q (k : Nat) : evF E87q A87q k 1000 0 Proofs.Try.f100 [.c .nsl] (boxHp []) (outM rs87q up87q) = slices_Clone_Pay k [] := by kernel_rfl
theorem ev87q (k : Nat) (xs : List K1q) : evF E87q A87q k 1000 0 Proofs.Try.f100 [.c (.nfl false (.pair (.int .i64) (.pair (.int .i64) (.pair (.int .i64) (.pair (.int .i64) y3q)))) xs)] (boxHp []) (outM rs87q up87q) = slices_Clone_Pay k xs := by kernel_rfl
theorem Ro87q : EntryOK Proofs.Try.prog R87q := fun k _ _ _ _ _ hy =>
  entry_nil (t := (.pair (.int .i64) (.pair (.int .i64) (.pair (.int .i64) (.pair (.int .i64) y3q))))) (S := fun xs => slices_Clone_Pay k xs) (unpack := up87q) (A := A87q) (k := k) (pre := 1000) (na := 0) (E := E87q) Eo87q El87q mixed_orders (f := 100) (fn := Proofs.Try.f100) (by kernel_rfl) (body_loops (loopsOK_none (by kernel_rfl))) (enters (fn := Proofs.Try.f100) (by kernel_rfl) (by kernel_rfl) (by kernel_rfl)) (fun _ => rfl) (fun x hx => (nil87q k).trans hx) (fun xs x hx => (ev87q k xs).trans hx) hy
theorem Rl87q : EntryLocal R87q.2 := entry_local (S := fun k (d : AD as87q) => slices_Clone_Pay k d.1)

/-! ### slices.Delete[[]giro/api.Pay,giro/api.Pay] -/
noncomputable def E88q : Env := ⟨Proofs.Try.prog, fun _ => false, sumsOf []⟩
def A88q : Notes := ⟨[], []⟩
theorem Eo88q : EnvOK E88q := ⟨eqOK_none, sumsOf_ok (List.forall_mem_nil _)⟩
theorem El88q : SumsLocal E88q.sums := sumsOf_local (List.forall_mem_nil _)
def as88q : List AX := [.c (.own (.pair (.int .i64) (.pair (.int .i64) (.pair (.int .i64) (.pair (.int .i64) y3q))))), .c (.p (.int .i64)), .c (.p (.int .i64))]
def rs88q : RS := .c (.own (.pair (.int .i64) (.pair (.int .i64) (.pair (.int .i64) (.pair (.int .i64) y3q)))))
def os88q : List (List RC) := []
def pk88q : List K1q → RL (rs88q.cells ++ os88q.flatten) := fun x => (x, ())
def up88q : RL (rs88q.cells ++ os88q.flatten) → List K1q := fun d => d.1
def R88q : Nat × Entry := (99, fun k nm args h => entryX as88q rs88q os88q (fun d => slices_Delete_Pay k d.1 d.2.1 d.2.2.1) pk88q nm args h)
theorem ev88q (k : Nat) (d : XD as88q) : evF E88q A88q k 1000 0 Proofs.Try.f99 (absArgsX as88q d).1 (absArgsX as88q d).2 (outXM as88q rs88q os88q up88q) = slices_Delete_Pay k d.1 d.2.1 d.2.2.1 := by
  obtain ⟨_, _, _, _⟩ := d
  kernel_rfl
theorem Ro88q : EntryOK Proofs.Try.prog R88q := fun k _ _ _ _ _ hy =>
  entryX_sound (unpack := up88q) (A := A88q) (k := k) (pre := 1000) (na := 0) (E := E88q) Eo88q El88q mixed_orders (f := 99) (fn := Proofs.Try.f99) (by kernel_rfl) (body_loops (loopsOK_none (by kernel_rfl))) (enters (fn := Proofs.Try.f99) (by kernel_rfl) (by kernel_rfl) (by kernel_rfl)) (fun _ => rfl) (by kernel_rfl) (ev88q k) hy
theorem Rl88q : EntryLocal R88q.2 := entryX_local (S := fun k (d : XD as88q) => slices_Delete_Pay k d.1 d.2.1 d.2.2.1)

/-! ### giro/row.Drop -/
noncomputable def E89q : Env := ⟨Proofs.Try.prog, fun _ => false, sumsOf [R86q, R87q, R88q]⟩
def A89q : Notes := ⟨[], []⟩
theorem Eo89q : EnvOK E89q := ⟨eqOK_none, sumsOf_ok (List.forall_mem_cons.2 ⟨Ro86q, List.forall_mem_cons.2 ⟨Ro87q, List.forall_mem_cons.2 ⟨Ro88q, List.forall_mem_nil _⟩⟩⟩)⟩
theorem El89q : SumsLocal E89q.sums := sumsOf_local (List.forall_mem_cons.2 ⟨Rl86q, List.forall_mem_cons.2 ⟨Rl87q, List.forall_mem_cons.2 ⟨Rl88q, List.forall_mem_nil _⟩⟩⟩)
def as89q : List AS := [.c (.dat true (.pair (.int .i64) (.pair (.int .i64) (.pair (.int .i64) (.pair (.int .i64) y3q))))), .c (.int .i64)]
def rs89q : RS := .tup [(false, [.fro (.pair (.int .i64) (.pair (.int .i64) (.pair (.int .i64) (.pair (.int .i64) y3q))))]), (true, [.int .i64, .int .i64, .int .i64, .int .i64, .int .i64, .int .i64, .int .i64]), (false, [.int .i64])]
def pk89q : (List K1q) × Int × Int × Int × Int × Int × Int × Int × Int → RL rs89q.cells := fun x => (x.1, x.2.1, x.2.2.1, x.2.2.2.1, x.2.2.2.2.1, x.2.2.2.2.2.1, x.2.2.2.2.2.2.1, x.2.2.2.2.2.2.2.1, x.2.2.2.2.2.2.2.2, ())
def up89q : RL rs89q.cells → (List K1q) × Int × Int × Int × Int × Int × Int × Int × Int := fun d => (d.1, d.2.1, d.2.2.1, d.2.2.2.1, d.2.2.2.2.1, d.2.2.2.2.2.1, d.2.2.2.2.2.2.1, d.2.2.2.2.2.2.2.1, d.2.2.2.2.2.2.2.2.1)
def R89q : Nat × Entry := (73, fun k nm args h => entry as89q rs89q (fun d => row_Drop k d.1 d.2.1) pk89q nm args h)
theorem ev89q (k : Nat) (d : AD as89q) : evF E89q A89q k 1000 0 Proofs.Try.f73 (absArgs as89q d).1 (absArgs as89q d).2 (outM rs89q up89q) = row_Drop k d.1 d.2.1 := by
  obtain ⟨_, _, _⟩ := d
  kernel_rfl
theorem Ro89q : EntryOK Proofs.Try.prog R89q := fun k _ _ _ _ _ hy =>
  entry_sound (unpack := up89q) (A := A89q) (k := k) (pre := 1000) (na := 0) (E := E89q) Eo89q El89q mixed_orders (f := 73) (fn := Proofs.Try.f73) (by kernel_rfl) (body_loops (loopsOK_none (by kernel_rfl))) (enters (fn := Proofs.Try.f73) (by kernel_rfl) (by kernel_rfl) (by kernel_rfl)) (fun _ => rfl) (ev89q k) hy
theorem Rl89q : EntryLocal R89q.2 := entry_local (S := fun k (d : AD as89q) => row_Drop k d.1 d.2.1)

/-! ### giro/giroref11.Same -/
noncomputable def E108q : Env := ⟨Proofs.Try.prog, fun t => [51].any (Nat.beq t), sumsOf []⟩
def I108_0q : Spec := ⟨[(0, .c (.dat false (.pair (.int .i64) (.pair (.int .i64) (.pair (.int .i64) (.pair (.int .i64) y3q)))))), (1, .c (.dat false (.pair (.int .i64) (.pair (.int .i64) (.pair (.int .i64) (.pair (.int .i64) y3q)))))), (5, .c (.int .i64))], [], []⟩
def X0_108_0q : Spec := ⟨[], [], []⟩
def X1_108_0q : Spec := ⟨[(4, .c (.bool))], [], []⟩
def O108_0q : List (Ex × Spec) := [(.exit 0, X0_108_0q), (.ret, X1_108_0q)]
abbrev Z108_0q : Type := Unit ⊕ Bool
def c108_0q (f : List K1q → List K1q → Int → Option Z108_0q) (d : I108_0q.den) : Option Z108_0q := f d.1.1.1 d.1.2.1.1 d.1.2.2.1.1
def T108_0q : OutD O108_0q → Z108_0q
 | .inl d => .inl ()
 | .inr d => .inr d.1.1.1
def e108_0q (base : Nat) (x : Z108_0q) (R : Type) (K : Ex → St → Option R) : Option R := match x with
 | .inl x => K (.exit 0) (stOf base X0_108_0q ((), ()))
 | .inr x => K .ret (stOf base X1_108_0q (((x, ()), ()), ()))
def L108_0q : LoopSum := ⟨I108_0q, O108_0q, Z108_0q, fun k d => c108_0q (giroref11_Same_L0 k k) d, e108_0q⟩
def A108q : Notes := ⟨[], [(4, L108_0q)]⟩
theorem Eo108q : EnvOK E108q := ⟨eqOK_flat (fun t h => eqT_mem (p := fun t => !Proofs.Try.prog.stoodInHeld t && !Proofs.Try.prog.eqGuardType Proofs.Try.prog.depth t) (l := [51]) (List.forall_mem_cons.2 ⟨by kernel_rfl, List.forall_mem_nil _⟩) t h), sumsOf_ok (List.forall_mem_nil _)⟩
theorem El108q : SumsLocal E108q.sums := sumsOf_local (List.forall_mem_nil _)
theorem st108_0q (k : Nat) (rec : List K1q → List K1q → Int → Option Z108_0q) (d : I108_0q.den) : c108_0q (giroref11_Same_L0b k rec) d = evC E108q A108q k 1000 0 26 (loopAt (bodyOf Proofs.Try.f42) 0) (stOf (1000 + loopBase) I108_0q d) (roundK 1000 I108_0q O108_0q T108_0q (c108_0q rec)) := by
  obtain ⟨⟨⟨_, _⟩, ⟨_, _⟩, ⟨_, _⟩, _⟩, _⟩ := d
  kernel_rfl
theorem lk108_0q : LoopOK Proofs.Try.prog 1000 0 26 (loopAt (bodyOf Proofs.Try.f42) 0) L108_0q :=
  loop_sound (A := A108q) (inS := I108_0q) (outs := O108_0q) Eo108q El108q mixed_orders (loopsOK_none (by kernel_rfl)) T108_0q e108_0q (by intro o R K; rcases o with o | o <;> rfl) (fun k n d => c108_0q (giroref11_Same_L0 k n) d) (fun _ _ => rfl) (fun k n d => st108_0q k (giroref11_Same_L0 k n) d)
def as108q : List AS := [.c (.dat false (.pair (.int .i64) (.pair (.int .i64) (.pair (.int .i64) (.pair (.int .i64) y3q))))), .c (.dat false (.pair (.int .i64) (.pair (.int .i64) (.pair (.int .i64) (.pair (.int .i64) y3q)))))]
def rs108q : RS := .c (.bool)
def pk108q : Bool → RL rs108q.cells := fun x => (x, ())
def up108q : RL rs108q.cells → Bool := fun d => d.1
def R108q : Nat × Entry := (42, fun k nm args h => entry as108q rs108q (fun d => giroref11_Same k d.1 d.2.1) pk108q nm args h)
theorem ev108q (k : Nat) (d : AD as108q) : evF E108q A108q k 1000 0 Proofs.Try.f42 (absArgs as108q d).1 (absArgs as108q d).2 (outM rs108q up108q) = giroref11_Same k d.1 d.2.1 := by
  obtain ⟨_, _, _⟩ := d
  kernel_rfl
theorem Ro108q : EntryOK Proofs.Try.prog R108q := fun k _ _ _ _ _ hy =>
  entry_sound (unpack := up108q) (A := A108q) (k := k) (pre := 1000) (na := 0) (E := E108q) Eo108q El108q mixed_orders (f := 42) (fn := Proofs.Try.f42) (by kernel_rfl) (body_loops (loopsOK_of (n := 1) (by kernel_rfl) fun i hi => match i, hi with | 0, _ => ⟨L108_0q, by kernel_rfl, lk108_0q⟩ | i + 1, hi => absurd hi (by omega))) (enters (fn := Proofs.Try.f42) (by kernel_rfl) (by kernel_rfl) (by kernel_rfl)) (fun _ => rfl) (ev108q k) hy
theorem Rl108q : EntryLocal R108q.2 := entry_local (S := fun k (d : AD as108q) => giroref11_Same k d.1 d.2.1)

/-! ### giro/girolaw19.some -/
noncomputable def E121q : Env := ⟨Proofs.Try.prog, fun _ => false, sumsOf []⟩
def I121_0q : Spec := ⟨[(0, .c (.dat false (.int .i64))), (1, .c (.int .i64)), (4, .c (.lit (.ptr 1001000 0))), (5, .c (.lit (.ptr 1001001 0))), (6, .c (.int .i64))], [.box true [.lit .nsl, .lit .nsl, .lit .nsl, .lit .nsl], .box true [.lit (.osl 1001002 none), .lit (.osl 1001003 none), .lit (.osl 1001004 none), .lit (.osl 1001005 none)], .arr true y3q, .mat, .arr true (.int .i64), .mat], [(5, some 0, y3q, false)]⟩
def X0_121_0q : Spec := ⟨[(1, .c (.int .i64)), (4, .c (.lit (.ptr 1001000 0))), (5, .c (.lit (.ptr 1001001 0)))], [.box true [.lit .nsl, .lit .nsl, .lit .nsl, .lit .nsl], .box true [.lit (.osl 1001002 none), .lit (.osl 1001003 none), .lit (.osl 1001004 none), .lit (.osl 1001005 none)], .arr true y3q, .mat, .arr true (.int .i64), .mat], []⟩
def O121_0q : List (Ex × Spec) := [(.exit 0, X0_121_0q)]
abbrev Z121_0q : Type := Int × (List K2q) × (List (List Int)) × (List Int) × (List (List Int))
def c121_0q (f : List Int → Int → Int → List K2q → List (List Int) → List Int → List (List Int) → Option Z121_0q) (d : I121_0q.den) : Option Z121_0q := f d.1.1.1 d.1.2.1.1 d.1.2.2.2.2.1.1 d.2.2.2.1 d.2.2.2.2.1 d.2.2.2.2.2.1 d.2.2.2.2.2.2.1
def T121_0q : OutD O121_0q → Z121_0q := fun d => (d.1.1.1, d.2.2.2.1, d.2.2.2.2.1, d.2.2.2.2.2.1, d.2.2.2.2.2.2.1)
def e121_0q (base : Nat) (x : Z121_0q) (R : Type) (K : Ex → St → Option R) : Option R := K (.exit 0) (stOf base X0_121_0q (((x.1, ()), (), (), ()), ((), (), x.2.1, x.2.2.1, x.2.2.2.1, x.2.2.2.2, ())))
def L121_0q : LoopSum := ⟨I121_0q, O121_0q, Z121_0q, fun k d => c121_0q (girolaw19_some_L0 k k) d, e121_0q⟩
def A121q : Notes := ⟨[11, 16], [(3, L121_0q)]⟩
theorem Eo121q : EnvOK E121q := ⟨eqOK_none, sumsOf_ok (List.forall_mem_nil _)⟩
theorem El121q : SumsLocal E121q.sums := sumsOf_local (List.forall_mem_nil _)
theorem st121_0q (k : Nat) (rec : List Int → Int → Int → List K2q → List (List Int) → List Int → List (List Int) → Option Z121_0q) (d : I121_0q.den) : c121_0q (girolaw19_some_L0b k rec) d = evC E121q A121q k 1000 0 91 (loopAt (bodyOf Proofs.Try.f44) 0) (stOf (1000 + loopBase) I121_0q d) (roundK 1000 I121_0q O121_0q T121_0q (c121_0q rec)) := by
  obtain ⟨⟨⟨_, _⟩, ⟨_, _⟩, _, _, ⟨_, _⟩, _⟩, ⟨_, _, _, _, _, _, _⟩⟩ := d
  kernel_rfl
theorem lk121_0q : LoopOK Proofs.Try.prog 1000 0 91 (loopAt (bodyOf Proofs.Try.f44) 0) L121_0q :=
  loop_sound (A := A121q) (inS := I121_0q) (outs := O121_0q) Eo121q El121q mixed_orders (loopsOK_none (by kernel_rfl)) T121_0q e121_0q (fun _ _ _ => rfl) (fun k n d => c121_0q (girolaw19_some_L0 k n) d) (fun _ _ => rfl) (fun k n d => st121_0q k (girolaw19_some_L0 k n) d)
def as121q : List AS := [.c (.dat false (.int .i64)), .c (.int .i64)]
def rs121q : RS := .agg [.own y3q, .mat, .own (.int .i64), .mat]
def pk121q : (List K2q) × (List (List Int)) × (List Int) × (List (List Int)) → RL rs121q.cells := fun x => (x.1, x.2.1, x.2.2.1, x.2.2.2, ())
def up121q : RL rs121q.cells → (List K2q) × (List (List Int)) × (List Int) × (List (List Int)) := fun d => (d.1, d.2.1, d.2.2.1, d.2.2.2.1)
def R121q : Nat × Entry := (44, fun k nm args h => entry as121q rs121q (fun d => girolaw19_some k d.1 d.2.1) pk121q nm args h)
theorem ev121q (k : Nat) (d : AD as121q) : evF E121q A121q k 1000 0 Proofs.Try.f44 (absArgs as121q d).1 (absArgs as121q d).2 (outM rs121q up121q) = girolaw19_some k d.1 d.2.1 := by
  obtain ⟨_, _, _⟩ := d
  kernel_rfl
theorem Ro121q : EntryOK Proofs.Try.prog R121q := fun k _ _ _ _ _ hy =>
  entry_sound (unpack := up121q) (A := A121q) (k := k) (pre := 1000) (na := 0) (E := E121q) Eo121q El121q mixed_orders (f := 44) (fn := Proofs.Try.f44) (by kernel_rfl) (body_loops (loopsOK_of (n := 1) (by kernel_rfl) fun i hi => match i, hi with | 0, _ => ⟨L121_0q, by kernel_rfl, lk121_0q⟩ | i + 1, hi => absurd hi (by omega))) (enters (fn := Proofs.Try.f44) (by kernel_rfl) (by kernel_rfl) (by kernel_rfl)) (fun _ => rfl) (ev121q k) hy
theorem Rl121q : EntryLocal R121q.2 := entry_local (S := fun k (d : AD as121q) => girolaw19_some k d.1 d.2.1)

/-! ### giro/pair.next -/
noncomputable def E123q : Env := ⟨Proofs.Try.prog, fun _ => false, sumsOf [R62q, R78q, R82q]⟩
def I123_0q : Spec := ⟨[(3, .c (.lit (.ptr 1001000 0))), (6, .c (.lit (.ptr 1001001 0))), (8, .c (.lit (.osl 1001002 none))), (10, .c (.lit (.ptr 1001003 0))), (18, .c (.lit (.osl 1001002 none))), (19, .c (.int .i64)), (20, .c (.int .i64)), (24, .c (.lit (.osl 1001002 none))), (25, .c (.int .i64)), (26, .c (.int .i64))], [.box true [.dat true y3q, .dat true (.sl (.int .i64)), .dat true (.int .i64), .dat true (.sl (.int .i64))], .box true [.int .i64, .int .i64, .int .i64, .int .i64, .int .i64, .int .i64, .int .i64, .int .i64, .int .i64, .int .i64, .int .i64, .int .i64, .int .i64, .int .i64, .lit .nsl, .lit .nsl, .lit .nsl, .lit .nsl], .arr true (.pair (.int .i64) (.pair (.int .i64) (.pair (.int .i64) (.pair (.int .i64) y3q)))), .box true [.int .i64, .int .i64, .int .i64, .int .i64, .int .i64, .int .i64, .int .i64]], []⟩
def X0_123_0q : Spec := ⟨[(3, .c (.lit (.ptr 1001000 0))), (6, .c (.lit (.ptr 1001001 0))), (8, .c (.lit (.osl 1001002 none))), (18, .c (.lit (.osl 1001002 none))), (19, .c (.int .i64)), (20, .c (.int .i64))], [.box true [.dat true y3q, .dat true (.sl (.int .i64)), .dat true (.int .i64), .dat true (.sl (.int .i64))], .box true [.int .i64, .int .i64, .int .i64, .int .i64, .int .i64, .int .i64, .int .i64, .int .i64, .int .i64, .int .i64, .int .i64, .int .i64, .int .i64, .int .i64, .lit .nsl, .lit .nsl, .lit .nsl, .lit .nsl], .arr true (.pair (.int .i64) (.pair (.int .i64) (.pair (.int .i64) (.pair (.int .i64) y3q))))], []⟩
def X1_123_0q : Spec := ⟨[(6, .c (.lit (.ptr 1001000 0))), (7, .c (.bool))], [.box true [.int .i64, .int .i64, .int .i64, .int .i64, .int .i64, .int .i64, .int .i64, .int .i64, .int .i64, .int .i64, .int .i64, .int .i64, .int .i64, .int .i64, .dat true y3q, .dat true (.sl (.int .i64)), .dat true (.int .i64), .dat true (.sl (.int .i64))]], []⟩
def O123_0q : List (Ex × Spec) := [(.exit 2, X0_123_0q), (.ret, X1_123_0q)]
abbrev Z123_0q : Type := (Int × Int × (List K2q) × (List (List Int)) × (List Int) × (List (List Int)) × Int × Int × Int × Int × Int × Int × Int × Int × Int × Int × Int × Int × Int × Int × (List K1q)) ⊕ (Bool × Int × Int × Int × Int × Int × Int × Int × Int × Int × Int × Int × Int × Int × Int × (List K2q) × (List (List Int)) × (List Int) × (List (List Int)))
def c123_0q (f : Int → Int → Int → Int → List K2q → List (List Int) → List Int → List (List Int) → Int → Int → Int → Int → Int → Int → Int → Int → Int → Int → Int → Int → Int → Int → List K1q → Int → Int → Int → Int → Int → Int → Int → Option Z123_0q) (d : I123_0q.den) : Option Z123_0q := f d.1.2.2.2.2.2.1.1 d.1.2.2.2.2.2.2.1.1 d.1.2.2.2.2.2.2.2.2.1.1 d.1.2.2.2.2.2.2.2.2.2.1.1 d.2.1.1 d.2.1.2.1 d.2.1.2.2.1 d.2.1.2.2.2.1 d.2.2.1.1 d.2.2.1.2.1 d.2.2.1.2.2.1 d.2.2.1.2.2.2.1 d.2.2.1.2.2.2.2.1 d.2.2.1.2.2.2.2.2.1 d.2.2.1.2.2.2.2.2.2.1 d.2.2.1.2.2.2.2.2.2.2.1 d.2.2.1.2.2.2.2.2.2.2.2.1 d.2.2.1.2.2.2.2.2.2.2.2.2.1 d.2.2.1.2.2.2.2.2.2.2.2.2.2.1 d.2.2.1.2.2.2.2.2.2.2.2.2.2.2.1 d.2.2.1.2.2.2.2.2.2.2.2.2.2.2.2.1 d.2.2.1.2.2.2.2.2.2.2.2.2.2.2.2.2.1 d.2.2.2.1 d.2.2.2.2.1.1 d.2.2.2.2.1.2.1 d.2.2.2.2.1.2.2.1 d.2.2.2.2.1.2.2.2.1 d.2.2.2.2.1.2.2.2.2.1 d.2.2.2.2.1.2.2.2.2.2.1 d.2.2.2.2.1.2.2.2.2.2.2.1
def T123_0q : OutD O123_0q → Z123_0q
 | .inl d => .inl (d.1.2.2.2.2.1.1, d.1.2.2.2.2.2.1.1, d.2.1.1, d.2.1.2.1, d.2.1.2.2.1, d.2.1.2.2.2.1, d.2.2.1.1, d.2.2.1.2.1, d.2.2.1.2.2.1, d.2.2.1.2.2.2.1, d.2.2.1.2.2.2.2.1, d.2.2.1.2.2.2.2.2.1, d.2.2.1.2.2.2.2.2.2.1, d.2.2.1.2.2.2.2.2.2.2.1, d.2.2.1.2.2.2.2.2.2.2.2.1, d.2.2.1.2.2.2.2.2.2.2.2.2.1, d.2.2.1.2.2.2.2.2.2.2.2.2.2.1, d.2.2.1.2.2.2.2.2.2.2.2.2.2.2.1, d.2.2.1.2.2.2.2.2.2.2.2.2.2.2.2.1, d.2.2.1.2.2.2.2.2.2.2.2.2.2.2.2.2.1, d.2.2.2.1)
 | .inr d => .inr (d.1.2.1.1, d.2.1.1, d.2.1.2.1, d.2.1.2.2.1, d.2.1.2.2.2.1, d.2.1.2.2.2.2.1, d.2.1.2.2.2.2.2.1, d.2.1.2.2.2.2.2.2.1, d.2.1.2.2.2.2.2.2.2.1, d.2.1.2.2.2.2.2.2.2.2.1, d.2.1.2.2.2.2.2.2.2.2.2.1, d.2.1.2.2.2.2.2.2.2.2.2.2.1, d.2.1.2.2.2.2.2.2.2.2.2.2.2.1, d.2.1.2.2.2.2.2.2.2.2.2.2.2.2.1, d.2.1.2.2.2.2.2.2.2.2.2.2.2.2.2.1, d.2.1.2.2.2.2.2.2.2.2.2.2.2.2.2.2.1, d.2.1.2.2.2.2.2.2.2.2.2.2.2.2.2.2.2.1, d.2.1.2.2.2.2.2.2.2.2.2.2.2.2.2.2.2.2.1, d.2.1.2.2.2.2.2.2.2.2.2.2.2.2.2.2.2.2.2.1)
def e123_0q (base : Nat) (x : Z123_0q) (R : Type) (K : Ex → St → Option R) : Option R := match x with
 | .inl x => K (.exit 2) (stOf base X0_123_0q (((), (), (), (), (x.1, ()), (x.2.1, ()), ()), ((x.2.2.1, x.2.2.2.1, x.2.2.2.2.1, x.2.2.2.2.2.1, ()), (x.2.2.2.2.2.2.1, x.2.2.2.2.2.2.2.1, x.2.2.2.2.2.2.2.2.1, x.2.2.2.2.2.2.2.2.2.1, x.2.2.2.2.2.2.2.2.2.2.1, x.2.2.2.2.2.2.2.2.2.2.2.1, x.2.2.2.2.2.2.2.2.2.2.2.2.1, x.2.2.2.2.2.2.2.2.2.2.2.2.2.1, x.2.2.2.2.2.2.2.2.2.2.2.2.2.2.1, x.2.2.2.2.2.2.2.2.2.2.2.2.2.2.2.1, x.2.2.2.2.2.2.2.2.2.2.2.2.2.2.2.2.1, x.2.2.2.2.2.2.2.2.2.2.2.2.2.2.2.2.2.1, x.2.2.2.2.2.2.2.2.2.2.2.2.2.2.2.2.2.2.1, x.2.2.2.2.2.2.2.2.2.2.2.2.2.2.2.2.2.2.2.1, ()), x.2.2.2.2.2.2.2.2.2.2.2.2.2.2.2.2.2.2.2.2, ())))
 | .inr x => K .ret (stOf base X1_123_0q (((), (x.1, ()), ()), ((x.2.1, x.2.2.1, x.2.2.2.1, x.2.2.2.2.1, x.2.2.2.2.2.1, x.2.2.2.2.2.2.1, x.2.2.2.2.2.2.2.1, x.2.2.2.2.2.2.2.2.1, x.2.2.2.2.2.2.2.2.2.1, x.2.2.2.2.2.2.2.2.2.2.1, x.2.2.2.2.2.2.2.2.2.2.2.1, x.2.2.2.2.2.2.2.2.2.2.2.2.1, x.2.2.2.2.2.2.2.2.2.2.2.2.2.1, x.2.2.2.2.2.2.2.2.2.2.2.2.2.2.1, x.2.2.2.2.2.2.2.2.2.2.2.2.2.2.2.1, x.2.2.2.2.2.2.2.2.2.2.2.2.2.2.2.2.1, x.2.2.2.2.2.2.2.2.2.2.2.2.2.2.2.2.2.1, x.2.2.2.2.2.2.2.2.2.2.2.2.2.2.2.2.2.2, ()), ())))
def L123_0q : LoopSum := ⟨I123_0q, O123_0q, Z123_0q, fun k d => c123_0q (pair_next_L1 k k) d, e123_0q⟩
def I123_1q : Spec := ⟨[(3, .c (.lit (.ptr 1001000 0))), (6, .c (.lit (.ptr 1001001 0))), (8, .c (.lit (.osl 1001002 none))), (18, .c (.lit (.osl 1001002 none))), (19, .c (.int .i64)), (20, .c (.int .i64))], [.box true [.dat true y3q, .dat true (.sl (.int .i64)), .dat true (.int .i64), .dat true (.sl (.int .i64))], .box true [.int .i64, .int .i64, .int .i64, .int .i64, .int .i64, .int .i64, .int .i64, .int .i64, .int .i64, .int .i64, .int .i64, .int .i64, .int .i64, .int .i64, .lit .nsl, .lit .nsl, .lit .nsl, .lit .nsl], .arr true (.pair (.int .i64) (.pair (.int .i64) (.pair (.int .i64) (.pair (.int .i64) y3q))))], []⟩
def X0_123_1q : Spec := ⟨[(6, .c (.lit (.ptr 1001000 0)))], [.box true [.int .i64, .int .i64, .int .i64, .int .i64, .int .i64, .int .i64, .int .i64, .int .i64, .int .i64, .int .i64, .int .i64, .int .i64, .int .i64, .int .i64, .lit .nsl, .lit .nsl, .lit .nsl, .lit .nsl]], []⟩
def X1_123_1q : Spec := ⟨[(6, .c (.lit (.ptr 1001000 0))), (7, .c (.bool))], [.box true [.int .i64, .int .i64, .int .i64, .int .i64, .int .i64, .int .i64, .int .i64, .int .i64, .int .i64, .int .i64, .int .i64, .int .i64, .int .i64, .int .i64, .dat true y3q, .dat true (.sl (.int .i64)), .dat true (.int .i64), .dat true (.sl (.int .i64))]], []⟩
def O123_1q : List (Ex × Spec) := [(.exit 0, X0_123_1q), (.ret, X1_123_1q)]
abbrev Z123_1q : Type := (Int × Int × Int × Int × Int × Int × Int × Int × Int × Int × Int × Int × Int × Int) ⊕ (Bool × Int × Int × Int × Int × Int × Int × Int × Int × Int × Int × Int × Int × Int × Int × (List K2q) × (List (List Int)) × (List Int) × (List (List Int)))
def c123_1q (f : Int → Int → List K2q → List (List Int) → List Int → List (List Int) → Int → Int → Int → Int → Int → Int → Int → Int → Int → Int → Int → Int → Int → Int → List K1q → Option Z123_1q) (d : I123_1q.den) : Option Z123_1q := f d.1.2.2.2.2.1.1 d.1.2.2.2.2.2.1.1 d.2.1.1 d.2.1.2.1 d.2.1.2.2.1 d.2.1.2.2.2.1 d.2.2.1.1 d.2.2.1.2.1 d.2.2.1.2.2.1 d.2.2.1.2.2.2.1 d.2.2.1.2.2.2.2.1 d.2.2.1.2.2.2.2.2.1 d.2.2.1.2.2.2.2.2.2.1 d.2.2.1.2.2.2.2.2.2.2.1 d.2.2.1.2.2.2.2.2.2.2.2.1 d.2.2.1.2.2.2.2.2.2.2.2.2.1 d.2.2.1.2.2.2.2.2.2.2.2.2.2.1 d.2.2.1.2.2.2.2.2.2.2.2.2.2.2.1 d.2.2.1.2.2.2.2.2.2.2.2.2.2.2.2.1 d.2.2.1.2.2.2.2.2.2.2.2.2.2.2.2.2.1 d.2.2.2.1
def T123_1q : OutD O123_1q → Z123_1q
 | .inl d => .inl (d.2.1.1, d.2.1.2.1, d.2.1.2.2.1, d.2.1.2.2.2.1, d.2.1.2.2.2.2.1, d.2.1.2.2.2.2.2.1, d.2.1.2.2.2.2.2.2.1, d.2.1.2.2.2.2.2.2.2.1, d.2.1.2.2.2.2.2.2.2.2.1, d.2.1.2.2.2.2.2.2.2.2.2.1, d.2.1.2.2.2.2.2.2.2.2.2.2.1, d.2.1.2.2.2.2.2.2.2.2.2.2.2.1, d.2.1.2.2.2.2.2.2.2.2.2.2.2.2.1, d.2.1.2.2.2.2.2.2.2.2.2.2.2.2.2.1)
 | .inr d => .inr (d.1.2.1.1, d.2.1.1, d.2.1.2.1, d.2.1.2.2.1, d.2.1.2.2.2.1, d.2.1.2.2.2.2.1, d.2.1.2.2.2.2.2.1, d.2.1.2.2.2.2.2.2.1, d.2.1.2.2.2.2.2.2.2.1, d.2.1.2.2.2.2.2.2.2.2.1, d.2.1.2.2.2.2.2.2.2.2.2.1, d.2.1.2.2.2.2.2.2.2.2.2.2.1, d.2.1.2.2.2.2.2.2.2.2.2.2.2.1, d.2.1.2.2.2.2.2.2.2.2.2.2.2.2.1, d.2.1.2.2.2.2.2.2.2.2.2.2.2.2.2.1, d.2.1.2.2.2.2.2.2.2.2.2.2.2.2.2.2.1, d.2.1.2.2.2.2.2.2.2.2.2.2.2.2.2.2.2.1, d.2.1.2.2.2.2.2.2.2.2.2.2.2.2.2.2.2.2.1, d.2.1.2.2.2.2.2.2.2.2.2.2.2.2.2.2.2.2.2.1)
def e123_1q (base : Nat) (x : Z123_1q) (R : Type) (K : Ex → St → Option R) : Option R := match x with
 | .inl x => K (.exit 0) (stOf base X0_123_1q (((), ()), ((x.1, x.2.1, x.2.2.1, x.2.2.2.1, x.2.2.2.2.1, x.2.2.2.2.2.1, x.2.2.2.2.2.2.1, x.2.2.2.2.2.2.2.1, x.2.2.2.2.2.2.2.2.1, x.2.2.2.2.2.2.2.2.2.1, x.2.2.2.2.2.2.2.2.2.2.1, x.2.2.2.2.2.2.2.2.2.2.2.1, x.2.2.2.2.2.2.2.2.2.2.2.2.1, x.2.2.2.2.2.2.2.2.2.2.2.2.2, ()), ())))
 | .inr x => K .ret (stOf base X1_123_1q (((), (x.1, ()), ()), ((x.2.1, x.2.2.1, x.2.2.2.1, x.2.2.2.2.1, x.2.2.2.2.2.1, x.2.2.2.2.2.2.1, x.2.2.2.2.2.2.2.1, x.2.2.2.2.2.2.2.2.1, x.2.2.2.2.2.2.2.2.2.1, x.2.2.2.2.2.2.2.2.2.2.1, x.2.2.2.2.2.2.2.2.2.2.2.1, x.2.2.2.2.2.2.2.2.2.2.2.2.1, x.2.2.2.2.2.2.2.2.2.2.2.2.2.1, x.2.2.2.2.2.2.2.2.2.2.2.2.2.2.1, x.2.2.2.2.2.2.2.2.2.2.2.2.2.2.2.1, x.2.2.2.2.2.2.2.2.2.2.2.2.2.2.2.2.1, x.2.2.2.2.2.2.2.2.2.2.2.2.2.2.2.2.2.1, x.2.2.2.2.2.2.2.2.2.2.2.2.2.2.2.2.2.2, ()), ())))
def L123_1q : LoopSum := ⟨I123_1q, O123_1q, Z123_1q, fun k d => c123_1q (pair_next_L0 k k) d, e123_1q⟩
def A123q : Notes := ⟨[], [(6, L123_0q), (3, L123_1q)]⟩
theorem Eo123q : EnvOK E123q := ⟨eqOK_none, sumsOf_ok (List.forall_mem_cons.2 ⟨Ro62q, List.forall_mem_cons.2 ⟨Ro78q, List.forall_mem_cons.2 ⟨Ro82q, List.forall_mem_nil _⟩⟩⟩)⟩
theorem El123q : SumsLocal E123q.sums := sumsOf_local (List.forall_mem_cons.2 ⟨Rl62q, List.forall_mem_cons.2 ⟨Rl78q, List.forall_mem_cons.2 ⟨Rl82q, List.forall_mem_nil _⟩⟩⟩)
theorem st123_0q (k : Nat) (rec : Int → Int → Int → Int → List K2q → List (List Int) → List Int → List (List Int) → Int → Int → Int → Int → Int → Int → Int → Int → Int → Int → Int → Int → Int → Int → List K1q → Int → Int → Int → Int → Int → Int → Int → Option Z123_0q) (d : I123_0q.den) : c123_0q (pair_next_L1b k rec) d = evC E123q A123q k 1000 0 74 (loopAt (loopAt (bodyOf Proofs.Try.f82) 0) 0) (stOf (1000 + loopBase) I123_0q d) (roundK 1000 I123_0q O123_0q T123_0q (c123_0q rec)) := by
  obtain ⟨⟨_, _, _, _, _, ⟨_, _⟩, ⟨_, _⟩, _, ⟨_, _⟩, ⟨_, _⟩, _⟩, ⟨⟨_, _, _, _, _⟩, ⟨_, _, _, _, _, _, _, _, _, _, _, _, _, _, _⟩, _, ⟨_, _, _, _, _, _, _, _⟩, _⟩⟩ := d
  kernel_rfl
theorem lk123_0q : LoopOK Proofs.Try.prog 1000 0 74 (loopAt (loopAt (bodyOf Proofs.Try.f82) 0) 0) L123_0q :=
  loop_sound (A := A123q) (inS := I123_0q) (outs := O123_0q) Eo123q El123q mixed_orders (loopsOK_none (by kernel_rfl)) T123_0q e123_0q (by intro o R K; rcases o with o | o <;> rfl) (fun k n d => c123_0q (pair_next_L1 k n) d) (fun _ _ => rfl) (fun k n d => st123_0q k (pair_next_L1 k n) d)
theorem st123_1q (k : Nat) (rec : Int → Int → List K2q → List (List Int) → List Int → List (List Int) → Int → Int → Int → Int → Int → Int → Int → Int → Int → Int → Int → Int → Int → Int → List K1q → Option Z123_1q) (d : I123_1q.den) : c123_1q (pair_next_L0b k rec) d = evC E123q A123q k 1000 0 74 (loopAt (bodyOf Proofs.Try.f82) 0) (stOf (1000 + loopBase) I123_1q d) (roundK 1000 I123_1q O123_1q T123_1q (c123_1q rec)) := by
  obtain ⟨⟨_, _, _, _, ⟨_, _⟩, ⟨_, _⟩, _⟩, ⟨⟨_, _, _, _, _⟩, ⟨_, _, _, _, _, _, _, _, _, _, _, _, _, _, _⟩, _, _⟩⟩ := d
  kernel_rfl
theorem lk123_1q : LoopOK Proofs.Try.prog 1000 0 74 (loopAt (bodyOf Proofs.Try.f82) 0) L123_1q :=
  loop_sound (A := A123q) (inS := I123_1q) (outs := O123_1q) Eo123q El123q mixed_orders (loopsOK_of (n := 1) (by kernel_rfl) fun i hi => match i, hi with | 0, _ => ⟨L123_0q, by kernel_rfl, lk123_0q⟩ | i + 1, hi => absurd hi (by omega)) T123_1q e123_1q (by intro o R K; rcases o with o | o <;> rfl) (fun k n d => c123_1q (pair_next_L0 k n) d) (fun _ _ => rfl) (fun k n d => st123_1q k (pair_next_L0 k n) d)
def as123q : List AS := [.agg [.dat true y3q, .dat true (.sl (.int .i64)), .dat true (.int .i64), .dat true (.sl (.int .i64))], .c (.dat true (.pair (.int .i64) (.pair (.int .i64) (.pair (.int .i64) (.pair (.int .i64) y3q))))), .c (.int .i64)]
def rs123q : RS := .tup [(true, [.int .i64, .int .i64, .int .i64, .int .i64, .int .i64, .int .i64, .int .i64, .int .i64, .int .i64, .int .i64, .int .i64, .int .i64, .int .i64, .int .i64, .fro y3q, .fro (.sl (.int .i64)), .fro (.int .i64), .fro (.sl (.int .i64))]), (false, [.bool])]
def pk123q : Int × Int × Int × Int × Int × Int × Int × Int × Int × Int × Int × Int × Int × Int × (List K2q) × (List (List Int)) × (List Int) × (List (List Int)) × Bool → RL rs123q.cells := fun x => (x.1, x.2.1, x.2.2.1, x.2.2.2.1, x.2.2.2.2.1, x.2.2.2.2.2.1, x.2.2.2.2.2.2.1, x.2.2.2.2.2.2.2.1, x.2.2.2.2.2.2.2.2.1, x.2.2.2.2.2.2.2.2.2.1, x.2.2.2.2.2.2.2.2.2.2.1, x.2.2.2.2.2.2.2.2.2.2.2.1, x.2.2.2.2.2.2.2.2.2.2.2.2.1, x.2.2.2.2.2.2.2.2.2.2.2.2.2.1, x.2.2.2.2.2.2.2.2.2.2.2.2.2.2.1, x.2.2.2.2.2.2.2.2.2.2.2.2.2.2.2.1, x.2.2.2.2.2.2.2.2.2.2.2.2.2.2.2.2.1, x.2.2.2.2.2.2.2.2.2.2.2.2.2.2.2.2.2.1, x.2.2.2.2.2.2.2.2.2.2.2.2.2.2.2.2.2.2, ())
def up123q : RL rs123q.cells → Int × Int × Int × Int × Int × Int × Int × Int × Int × Int × Int × Int × Int × Int × (List K2q) × (List (List Int)) × (List Int) × (List (List Int)) × Bool := fun d => (d.1, d.2.1, d.2.2.1, d.2.2.2.1, d.2.2.2.2.1, d.2.2.2.2.2.1, d.2.2.2.2.2.2.1, d.2.2.2.2.2.2.2.1, d.2.2.2.2.2.2.2.2.1, d.2.2.2.2.2.2.2.2.2.1, d.2.2.2.2.2.2.2.2.2.2.1, d.2.2.2.2.2.2.2.2.2.2.2.1, d.2.2.2.2.2.2.2.2.2.2.2.2.1, d.2.2.2.2.2.2.2.2.2.2.2.2.2.1, d.2.2.2.2.2.2.2.2.2.2.2.2.2.2.1, d.2.2.2.2.2.2.2.2.2.2.2.2.2.2.2.1, d.2.2.2.2.2.2.2.2.2.2.2.2.2.2.2.2.1, d.2.2.2.2.2.2.2.2.2.2.2.2.2.2.2.2.2.1, d.2.2.2.2.2.2.2.2.2.2.2.2.2.2.2.2.2.2.1)
def R123q : Nat × Entry := (82, fun k nm args h => entry as123q rs123q (fun d => pair_next k d.1 d.2.1 d.2.2.1 d.2.2.2.1 d.2.2.2.2.1 d.2.2.2.2.2.1) pk123q nm args h)
theorem ev123q (k : Nat) (d : AD as123q) : evF E123q A123q k 1000 0 Proofs.Try.f82 (absArgs as123q d).1 (absArgs as123q d).2 (outM rs123q up123q) = pair_next k d.1 d.2.1 d.2.2.1 d.2.2.2.1 d.2.2.2.2.1 d.2.2.2.2.2.1 := by
  obtain ⟨_, _, _, _, _, _, _⟩ := d
  kernel_rfl
theorem Ro123q : EntryOK Proofs.Try.prog R123q := fun k _ _ _ _ _ hy =>
  entry_sound (unpack := up123q) (A := A123q) (k := k) (pre := 1000) (na := 0) (E := E123q) Eo123q El123q mixed_orders (f := 82) (fn := Proofs.Try.f82) (by kernel_rfl) (body_loops (loopsOK_of (n := 1) (by kernel_rfl) fun i hi => match i, hi with | 0, _ => ⟨L123_1q, by kernel_rfl, lk123_1q⟩ | i + 1, hi => absurd hi (by omega))) (enters (fn := Proofs.Try.f82) (by kernel_rfl) (by kernel_rfl) (by kernel_rfl)) (fun _ => rfl) (ev123q k) hy
theorem Rl123q : EntryLocal R123q.2 := entry_local (S := fun k (d : AD as123q) => pair_next k d.1 d.2.1 d.2.2.1 d.2.2.2.1 d.2.2.2.2.1 d.2.2.2.2.2.1)

/-! ### giro/pair.Run -/
noncomputable def E124q : Env := ⟨Proofs.Try.prog, fun _ => false, sumsOf [R123q, R89q]⟩
def I124_0q : Spec := ⟨[(2, .c (.int .i64)), (6, .c (.lit (.ptr 1001000 0))), (7, .c (.dat true (.pair (.int .i64) (.pair (.int .i64) (.pair (.int .i64) (.pair (.int .i64) y3q)))))), (8, .c (.lit (.osl 1001001 none))), (33, .c (.lit (.osl 1001002 none))), (34, .c (.int .i64)), (35, .c (.int .i64))], [.box true [.dat true y3q, .dat true (.sl (.int .i64)), .dat true (.int .i64), .dat true (.sl (.int .i64))], .arr true (.pair (.int .i64) (.pair (.int .i64) (.pair (.int .i64) (.pair (.int .i64) y3q)))), .arr true (.pair (.int .i64) (.pair (.int .i64) (.pair (.int .i64) (.pair (.int .i64) y3q))))], [(8, none, (.pair (.int .i64) (.pair (.int .i64) (.pair (.int .i64) (.pair (.int .i64) y3q)))), false)]⟩
def X0_124_0q : Spec := ⟨[(2, .c (.int .i64)), (6, .c (.lit (.ptr 1001000 0))), (7, .c (.dat true (.pair (.int .i64) (.pair (.int .i64) (.pair (.int .i64) (.pair (.int .i64) y3q)))))), (8, .c (.lit (.osl 1001001 none)))], [.box true [.dat true y3q, .dat true (.sl (.int .i64)), .dat true (.int .i64), .dat true (.sl (.int .i64))], .arr true (.pair (.int .i64) (.pair (.int .i64) (.pair (.int .i64) (.pair (.int .i64) y3q))))], []⟩
def O124_0q : List (Ex × Spec) := [(.exit 2, X0_124_0q)]
abbrev Z124_0q : Type := Int × (List K1q) × (List K2q) × (List (List Int)) × (List Int) × (List (List Int)) × (List K1q)
def c124_0q (f : Int → List K1q → Int → Int → List K2q → List (List Int) → List Int → List (List Int) → List K1q → List K1q → Option Z124_0q) (d : I124_0q.den) : Option Z124_0q := f d.1.1.1 d.1.2.2.1.1 d.1.2.2.2.2.2.1.1 d.1.2.2.2.2.2.2.1.1 d.2.1.1 d.2.1.2.1 d.2.1.2.2.1 d.2.1.2.2.2.1 d.2.2.1 d.2.2.2.1
def T124_0q : OutD O124_0q → Z124_0q := fun d => (d.1.1.1, d.1.2.2.1.1, d.2.1.1, d.2.1.2.1, d.2.1.2.2.1, d.2.1.2.2.2.1, d.2.2.1)
def e124_0q (base : Nat) (x : Z124_0q) (R : Type) (K : Ex → St → Option R) : Option R := K (.exit 2) (stOf base X0_124_0q (((x.1, ()), (), (x.2.1, ()), (), ()), ((x.2.2.1, x.2.2.2.1, x.2.2.2.2.1, x.2.2.2.2.2.1, ()), x.2.2.2.2.2.2, ())))
def L124_0q : LoopSum := ⟨I124_0q, O124_0q, Z124_0q, fun k d => c124_0q (pair_Run_L1 k k) d, e124_0q⟩
def I124_1q : Spec := ⟨[(2, .c (.int .i64)), (6, .c (.lit (.ptr 1001000 0))), (7, .c (.dat true (.pair (.int .i64) (.pair (.int .i64) (.pair (.int .i64) (.pair (.int .i64) y3q)))))), (8, .c (.lit (.osl 1001001 none)))], [.box true [.dat true y3q, .dat true (.sl (.int .i64)), .dat true (.int .i64), .dat true (.sl (.int .i64))], .arr true (.pair (.int .i64) (.pair (.int .i64) (.pair (.int .i64) (.pair (.int .i64) y3q))))], [(8, none, (.pair (.int .i64) (.pair (.int .i64) (.pair (.int .i64) (.pair (.int .i64) y3q)))), false)]⟩
def X0_124_1q : Spec := ⟨[(6, .c (.lit (.ptr 1001000 0))), (7, .c (.dat true (.pair (.int .i64) (.pair (.int .i64) (.pair (.int .i64) (.pair (.int .i64) y3q)))))), (8, .c (.lit (.osl 1001001 none)))], [.box true [.dat true y3q, .dat true (.sl (.int .i64)), .dat true (.int .i64), .dat true (.sl (.int .i64))], .arr true (.pair (.int .i64) (.pair (.int .i64) (.pair (.int .i64) (.pair (.int .i64) y3q))))], []⟩
def O124_1q : List (Ex × Spec) := [(.ret, X0_124_1q)]
abbrev Z124_1q : Type := (List K1q) × (List K2q) × (List (List Int)) × (List Int) × (List (List Int)) × (List K1q)
def c124_1q (f : Int → List K1q → List K2q → List (List Int) → List Int → List (List Int) → List K1q → Option Z124_1q) (d : I124_1q.den) : Option Z124_1q := f d.1.1.1 d.1.2.2.1.1 d.2.1.1 d.2.1.2.1 d.2.1.2.2.1 d.2.1.2.2.2.1 d.2.2.1
def T124_1q : OutD O124_1q → Z124_1q := fun d => (d.1.2.1.1, d.2.1.1, d.2.1.2.1, d.2.1.2.2.1, d.2.1.2.2.2.1, d.2.2.1)
def e124_1q (base : Nat) (x : Z124_1q) (R : Type) (K : Ex → St → Option R) : Option R := K .ret (stOf base X0_124_1q (((), (x.1, ()), (), ()), ((x.2.1, x.2.2.1, x.2.2.2.1, x.2.2.2.2.1, ()), x.2.2.2.2.2, ())))
def L124_1q : LoopSum := ⟨I124_1q, O124_1q, Z124_1q, fun k d => c124_1q (pair_Run_L0 k k) d, e124_1q⟩
def A124q : Notes := ⟨[], [(7, L124_0q), (2, L124_1q)]⟩
theorem Eo124q : EnvOK E124q := ⟨eqOK_none, sumsOf_ok (List.forall_mem_cons.2 ⟨Ro123q, List.forall_mem_cons.2 ⟨Ro89q, List.forall_mem_nil _⟩⟩)⟩
theorem El124q : SumsLocal E124q.sums := sumsOf_local (List.forall_mem_cons.2 ⟨Rl123q, List.forall_mem_cons.2 ⟨Rl89q, List.forall_mem_nil _⟩⟩)
theorem st124_0q (k : Nat) (rec : Int → List K1q → Int → Int → List K2q → List (List Int) → List Int → List (List Int) → List K1q → List K1q → Option Z124_0q) (d : I124_0q.den) : c124_0q (pair_Run_L1b k rec) d = evC E124q A124q k 1000 0 52 (loopAt (loopAt (bodyOf Proofs.Try.f46) 0) 0) (stOf (1000 + loopBase) I124_0q d) (roundK 1000 I124_0q O124_0q T124_0q (c124_0q rec)) := by
  obtain ⟨⟨⟨_, _⟩, _, ⟨_, _⟩, _, _, ⟨_, _⟩, ⟨_, _⟩, _⟩, ⟨⟨_, _, _, _, _⟩, _, _, _⟩⟩ := d
  kernel_rfl
theorem lk124_0q : LoopOK Proofs.Try.prog 1000 0 52 (loopAt (loopAt (bodyOf Proofs.Try.f46) 0) 0) L124_0q :=
  loop_sound (A := A124q) (inS := I124_0q) (outs := O124_0q) Eo124q El124q mixed_orders (loopsOK_none (by kernel_rfl)) T124_0q e124_0q (fun _ _ _ => rfl) (fun k n d => c124_0q (pair_Run_L1 k n) d) (fun _ _ => rfl) (fun k n d => st124_0q k (pair_Run_L1 k n) d)
theorem st124_1q (k : Nat) (rec : Int → List K1q → List K2q → List (List Int) → List Int → List (List Int) → List K1q → Option Z124_1q) (d : I124_1q.den) : c124_1q (pair_Run_L0b k rec) d = evC E124q A124q k 1000 0 52 (loopAt (bodyOf Proofs.Try.f46) 0) (stOf (1000 + loopBase) I124_1q d) (roundK 1000 I124_1q O124_1q T124_1q (c124_1q rec)) := by
  obtain ⟨⟨⟨_, _⟩, _, ⟨_, _⟩, _, _⟩, ⟨⟨_, _, _, _, _⟩, _, _⟩⟩ := d
  kernel_rfl
theorem lk124_1q : LoopOK Proofs.Try.prog 1000 0 52 (loopAt (bodyOf Proofs.Try.f46) 0) L124_1q :=
  loop_sound (A := A124q) (inS := I124_1q) (outs := O124_1q) Eo124q El124q mixed_orders (loopsOK_of (n := 1) (by kernel_rfl) fun i hi => match i, hi with | 0, _ => ⟨L124_0q, by kernel_rfl, lk124_0q⟩ | i + 1, hi => absurd hi (by omega)) T124_1q e124_1q (fun _ _ _ => rfl) (fun k n d => c124_1q (pair_Run_L0 k n) d) (fun _ _ => rfl) (fun k n d => st124_1q k (pair_Run_L0 k n) d)
def as124q : List AS := [.agg [.dat true y3q, .dat true (.sl (.int .i64)), .dat true (.int .i64), .dat true (.sl (.int .i64))], .c (.dat true (.pair (.int .i64) (.pair (.int .i64) (.pair (.int .i64) (.pair (.int .i64) y3q))))), .c (.int .i64)]
def rs124q : RS := .tup [(true, [.fro y3q, .fro (.sl (.int .i64)), .fro (.int .i64), .fro (.sl (.int .i64))]), (false, [.fro (.pair (.int .i64) (.pair (.int .i64) (.pair (.int .i64) (.pair (.int .i64) y3q))))]), (false, [.own (.pair (.int .i64) (.pair (.int .i64) (.pair (.int .i64) (.pair (.int .i64) y3q))))])]
def pk124q : (List K2q) × (List (List Int)) × (List Int) × (List (List Int)) × (List K1q) × (List K1q) → RL rs124q.cells := fun x => (x.1, x.2.1, x.2.2.1, x.2.2.2.1, x.2.2.2.2.1, x.2.2.2.2.2, ())
def up124q : RL rs124q.cells → (List K2q) × (List (List Int)) × (List Int) × (List (List Int)) × (List K1q) × (List K1q) := fun d => (d.1, d.2.1, d.2.2.1, d.2.2.2.1, d.2.2.2.2.1, d.2.2.2.2.2.1)
def R124q : Nat × Entry := (46, fun k nm args h => entry as124q rs124q (fun d => pair_Run k d.1 d.2.1 d.2.2.1 d.2.2.2.1 d.2.2.2.2.1 d.2.2.2.2.2.1) pk124q nm args h)
theorem ev124q (k : Nat) (d : AD as124q) : evF E124q A124q k 1000 0 Proofs.Try.f46 (absArgs as124q d).1 (absArgs as124q d).2 (outM rs124q up124q) = pair_Run k d.1 d.2.1 d.2.2.1 d.2.2.2.1 d.2.2.2.2.1 d.2.2.2.2.2.1 := by
  obtain ⟨_, _, _, _, _, _, _⟩ := d
  kernel_rfl
theorem Ro124q : EntryOK Proofs.Try.prog R124q := fun k _ _ _ _ _ hy =>
  entry_sound (unpack := up124q) (A := A124q) (k := k) (pre := 1000) (na := 0) (E := E124q) Eo124q El124q mixed_orders (f := 46) (fn := Proofs.Try.f46) (by kernel_rfl) (body_loops (loopsOK_of (n := 1) (by kernel_rfl) fun i hi => match i, hi with | 0, _ => ⟨L124_1q, by kernel_rfl, lk124_1q⟩ | i + 1, hi => absurd hi (by omega))) (enters (fn := Proofs.Try.f46) (by kernel_rfl) (by kernel_rfl) (by kernel_rfl)) (fun _ => rfl) (ev124q k) hy
theorem Rl124q : EntryLocal R124q.2 := entry_local (S := fun k (d : AD as124q) => pair_Run k d.1 d.2.1 d.2.2.1 d.2.2.2.1 d.2.2.2.2.1 d.2.2.2.2.2.1)

/-! ### giro/girolaw19.known -/
noncomputable def E126q : Env := ⟨Proofs.Try.prog, fun _ => false, sumsOf [R121q, R124q, R108q]⟩
def A126q : Notes := ⟨[], []⟩
theorem Eo126q : EnvOK E126q := ⟨eqOK_none, sumsOf_ok (List.forall_mem_cons.2 ⟨Ro121q, List.forall_mem_cons.2 ⟨Ro124q, List.forall_mem_cons.2 ⟨Ro108q, List.forall_mem_nil _⟩⟩⟩)⟩
theorem El126q : SumsLocal E126q.sums := sumsOf_local (List.forall_mem_cons.2 ⟨Rl121q, List.forall_mem_cons.2 ⟨Rl124q, List.forall_mem_cons.2 ⟨Rl108q, List.forall_mem_nil _⟩⟩⟩)
def as126q : List AS := []
def rs126q : RS := .c (.bool)
def pk126q : Bool → RL rs126q.cells := fun x => (x, ())
def up126q : RL rs126q.cells → Bool := fun d => d.1
def R126q : Nat × Entry := (48, fun k nm args h => entry as126q rs126q (fun d => girolaw19_known k) pk126q nm args h)
theorem ev126q (k : Nat) (d : AD as126q) : evF E126q A126q k 1000 0 Proofs.Try.f48 (absArgs as126q d).1 (absArgs as126q d).2 (outM rs126q up126q) = girolaw19_known k := by
  kernel_rfl
theorem Ro126q : EntryOK Proofs.Try.prog R126q := fun k _ _ _ _ _ hy =>
  entry_sound (unpack := up126q) (A := A126q) (k := k) (pre := 1000) (na := 0) (E := E126q) Eo126q El126q mixed_orders (f := 48) (fn := Proofs.Try.f48) (by kernel_rfl) (body_loops (loopsOK_none (by kernel_rfl))) (enters (fn := Proofs.Try.f48) (by kernel_rfl) (by kernel_rfl) (by kernel_rfl)) (fun _ => rfl) (ev126q k) hy
theorem Rl126q : EntryLocal R126q.2 := entry_local (S := fun k (d : AD as126q) => girolaw19_known k)

/-! ### giro/girolaw19.PairTwo -/
noncomputable def E_girolaw19_PairTwo : Env := ⟨Proofs.Try.prog, fun _ => false, sumsOf [R121q, R124q, R126q]⟩
def A_girolaw19_PairTwo : Notes := ⟨[], []⟩
theorem E_girolaw19_PairTwo_ok : EnvOK E_girolaw19_PairTwo := ⟨eqOK_none, sumsOf_ok (List.forall_mem_cons.2 ⟨Ro121q, List.forall_mem_cons.2 ⟨Ro124q, List.forall_mem_cons.2 ⟨Ro126q, List.forall_mem_nil _⟩⟩⟩)⟩
theorem E_girolaw19_PairTwo_local : SumsLocal E_girolaw19_PairTwo.sums := sumsOf_local (List.forall_mem_cons.2 ⟨Rl121q, List.forall_mem_cons.2 ⟨Rl124q, List.forall_mem_cons.2 ⟨Rl126q, List.forall_mem_nil _⟩⟩⟩)
def as_girolaw19_PairTwo : List AS := [.c (.int .i64), .c (.int .i64), .c (.int .i64), .c (.int .i64)]
def rs_girolaw19_PairTwo : RS := .c (.bool)
def pk_girolaw19_PairTwo : Bool → RL rs_girolaw19_PairTwo.cells := fun x => (x, ())
def up_girolaw19_PairTwo : RL rs_girolaw19_PairTwo.cells → Bool := fun d => d.1
def R_girolaw19_PairTwo : Nat × Entry := (11, fun k nm args h => entry as_girolaw19_PairTwo rs_girolaw19_PairTwo (fun d => girolaw19_PairTwo k d.1 d.2.1 d.2.2.1 d.2.2.2.1) pk_girolaw19_PairTwo nm args h)
theorem girolaw19_PairTwo_ev (k : Nat) (d : AD as_girolaw19_PairTwo) : evF E_girolaw19_PairTwo A_girolaw19_PairTwo k 1000 0 Proofs.Try.f11 (absArgs as_girolaw19_PairTwo d).1 (absArgs as_girolaw19_PairTwo d).2 (outM rs_girolaw19_PairTwo up_girolaw19_PairTwo) = girolaw19_PairTwo k d.1 d.2.1 d.2.2.1 d.2.2.2.1 := by
  obtain ⟨_, _, _, _, _⟩ := d
  kernel_rfl
theorem R_girolaw19_PairTwo_ok : EntryOK Proofs.Try.prog R_girolaw19_PairTwo := fun k _ _ _ _ _ hy =>
  entry_sound (unpack := up_girolaw19_PairTwo) (A := A_girolaw19_PairTwo) (k := k) (pre := 1000) (na := 0) (E := E_girolaw19_PairTwo) E_girolaw19_PairTwo_ok E_girolaw19_PairTwo_local mixed_orders (f := 11) (fn := Proofs.Try.f11) (by kernel_rfl) (body_loops (loopsOK_none (by kernel_rfl))) (enters (fn := Proofs.Try.f11) (by kernel_rfl) (by kernel_rfl) (by kernel_rfl)) (fun _ => rfl) (girolaw19_PairTwo_ev k) hy
theorem R_girolaw19_PairTwo_local : EntryLocal R_girolaw19_PairTwo.2 := entry_local (S := fun k (d : AD as_girolaw19_PairTwo) => girolaw19_PairTwo k d.1 d.2.1 d.2.2.1 d.2.2.2.1)

end Go.Ab.Gi
