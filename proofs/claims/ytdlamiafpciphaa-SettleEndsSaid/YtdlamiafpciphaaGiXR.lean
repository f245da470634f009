/- The shallow functions are what the program does, printed (abprint.py). -/
import Derived.Test.YtdlamiafpciphaaGiXRa
set_option linter.unusedVariables false
set_option maxRecDepth 100000
namespace Go.Ab.Gi

/-! ### giro/view.May$1$1 -/
noncomputable def E110q : Env := ⟨Proofs.Try.prog, fun _ => false, sumsOf []⟩
def A110q : Notes := ⟨[], []⟩
theorem Eo110q : EnvOK E110q := ⟨eqOK_none, sumsOf_ok (List.forall_mem_nil _)⟩
theorem El110q : SumsLocal E110q.sums := sumsOf_local (List.forall_mem_nil _)
def as110q : List AS := [.agg [.int .i64, .int .i64, .int .i64, .int .i64, .int .i64, .int .i64, .int .i64], .ptr [.int .i64, .int .i64, .int .i64, .int .i64, .int .i64, .int .i64, .int .i64]]
def rs110q : RS := .c (.bool)
def pk110q : Bool → RL rs110q.cells := fun x => (x, ())
def up110q : RL rs110q.cells → Bool := fun d => d.1
def R110q : Nat × Entry := (137, fun k nm args h => entry as110q rs110q (fun d => view_May_fn1_fn1 k d.1 d.2.1 d.2.2.1 d.2.2.2.1 d.2.2.2.2.1 d.2.2.2.2.2.1 d.2.2.2.2.2.2.1 d.2.2.2.2.2.2.2.1 d.2.2.2.2.2.2.2.2.1 d.2.2.2.2.2.2.2.2.2.1 d.2.2.2.2.2.2.2.2.2.2.1 d.2.2.2.2.2.2.2.2.2.2.2.1 d.2.2.2.2.2.2.2.2.2.2.2.2.1 d.2.2.2.2.2.2.2.2.2.2.2.2.2.1) pk110q nm args h)
theorem ev110q (k : Nat) (d : AD as110q) : evF E110q A110q k 1000 0 Proofs.Try.f137 (absArgs as110q d).1 (absArgs as110q d).2 (outM rs110q up110q) = view_May_fn1_fn1 k d.1 d.2.1 d.2.2.1 d.2.2.2.1 d.2.2.2.2.1 d.2.2.2.2.2.1 d.2.2.2.2.2.2.1 d.2.2.2.2.2.2.2.1 d.2.2.2.2.2.2.2.2.1 d.2.2.2.2.2.2.2.2.2.1 d.2.2.2.2.2.2.2.2.2.2.1 d.2.2.2.2.2.2.2.2.2.2.2.1 d.2.2.2.2.2.2.2.2.2.2.2.2.1 d.2.2.2.2.2.2.2.2.2.2.2.2.2.1 := by
  obtain ⟨_, _, _, _, _, _, _, _, _, _, _, _, _, _, _⟩ := d
  kernel_rfl
theorem Ro110q : EntryOK Proofs.Try.prog R110q := fun k _ _ _ _ _ hy =>
  entry_sound (unpack := up110q) (A := A110q) (k := k) (pre := 1000) (na := 0) (E := E110q) Eo110q El110q mixed_orders (f := 137) (fn := Proofs.Try.f137) (by kernel_rfl) (body_loops (loopsOK_none (by kernel_rfl))) (enters (fn := Proofs.Try.f137) (by kernel_rfl) (by kernel_rfl) (by kernel_rfl)) (fun _ => rfl) (ev110q k) hy
theorem Rl110q : EntryLocal R110q.2 := entry_local (S := fun k (d : AD as110q) => view_May_fn1_fn1 k d.1 d.2.1 d.2.2.1 d.2.2.2.1 d.2.2.2.2.1 d.2.2.2.2.2.1 d.2.2.2.2.2.2.1 d.2.2.2.2.2.2.2.1 d.2.2.2.2.2.2.2.2.1 d.2.2.2.2.2.2.2.2.2.1 d.2.2.2.2.2.2.2.2.2.2.1 d.2.2.2.2.2.2.2.2.2.2.2.1 d.2.2.2.2.2.2.2.2.2.2.2.2.1 d.2.2.2.2.2.2.2.2.2.2.2.2.2.1)

/-! ### slices.IndexFunc[[]giro/api.Pay,giro/api.Pay] -/
noncomputable def E111q : Env := ⟨Proofs.Try.prog, fun _ => false, sumsOf [R110q]⟩
def I111_0q : Spec := ⟨[(0, .c (.dat false y7q)), (1, .c (.lit (.fn 137 [1001000]))), (7, .c (.int .i64)), (8, .c (.int .i64))], [.robox [.int .i64, .int .i64, .int .i64, .int .i64, .int .i64, .int .i64, .int .i64]], []⟩
def X0_111_0q : Spec := ⟨[], [], []⟩
def X1_111_0q : Spec := ⟨[(4, .c (.int .i64))], [], []⟩
def O111_0q : List (Ex × Spec) := [(.exit 0, X0_111_0q), (.ret, X1_111_0q)]
abbrev Z111_0q : Type := Unit ⊕ Int
def c111_0q (f : List K1q → Int → Int → Int → Int → Int → Int → Int → Int → Int → Option Z111_0q) (d : I111_0q.den) : Option Z111_0q := f d.1.1.1 d.1.2.2.1.1 d.1.2.2.2.1.1 d.2.1.1 d.2.1.2.1 d.2.1.2.2.1 d.2.1.2.2.2.1 d.2.1.2.2.2.2.1 d.2.1.2.2.2.2.2.1 d.2.1.2.2.2.2.2.2.1
def T111_0q : OutD O111_0q → Z111_0q
 | .inl d => .inl ()
 | .inr d => .inr d.1.1.1
def e111_0q (base : Nat) (x : Z111_0q) (R : Type) (K : Ex → St → Option R) : Option R := match x with
 | .inl x => K (.exit 0) (stOf base X0_111_0q ((), ()))
 | .inr x => K .ret (stOf base X1_111_0q (((x, ()), ()), ()))
def L111_0q : LoopSum := ⟨I111_0q, O111_0q, Z111_0q, fun k d => c111_0q (slices_IndexFunc_Pay__view_May_fn1_fn1_L0 k k) d, e111_0q⟩
def A111q : Notes := ⟨[], [(2, L111_0q)]⟩
theorem Eo111q : EnvOK E111q := ⟨eqOK_none, sumsOf_ok (List.forall_mem_cons.2 ⟨Ro110q, List.forall_mem_nil _⟩)⟩
theorem El111q : SumsLocal E111q.sums := sumsOf_local (List.forall_mem_cons.2 ⟨Rl110q, List.forall_mem_nil _⟩)
theorem st111_0q (k : Nat) (rec : List K1q → Int → Int → Int → Int → Int → Int → Int → Int → Int → Option Z111_0q) (d : I111_0q.den) : c111_0q (slices_IndexFunc_Pay__view_May_fn1_fn1_L0b k rec) d = evC E111q A111q k 1000 0 19 (loopAt (bodyOf Proofs.Try.f109) 0) (stOf (1000 + loopBase) I111_0q d) (roundK 1000 I111_0q O111_0q T111_0q (c111_0q rec)) := by
  obtain ⟨⟨⟨_, _⟩, _, ⟨_, _⟩, ⟨_, _⟩, _⟩, ⟨⟨_, _, _, _, _, _, _, _⟩, _⟩⟩ := d
  kernel_rfl
theorem lk111_0q : LoopOK Proofs.Try.prog 1000 0 19 (loopAt (bodyOf Proofs.Try.f109) 0) L111_0q :=
  loop_sound (A := A111q) (inS := I111_0q) (outs := O111_0q) Eo111q El111q mixed_orders (loopsOK_none (by kernel_rfl)) T111_0q e111_0q (by intro o R K; rcases o with o | o <;> rfl) (fun k n d => c111_0q (slices_IndexFunc_Pay__view_May_fn1_fn1_L0 k n) d) (fun _ _ => rfl) (fun k n d => st111_0q k (slices_IndexFunc_Pay__view_May_fn1_fn1_L0 k n) d)
def as111q : List AS := [.c (.dat false y7q), .fn 137 [[.int .i64, .int .i64, .int .i64, .int .i64, .int .i64, .int .i64, .int .i64]]]
def rs111q : RS := .c (.int .i64)
def pk111q : Int → RL rs111q.cells := fun x => (x, ())
def up111q : RL rs111q.cells → Int := fun d => d.1
def R111q : Nat × Entry := (109, fun k nm args h => entry as111q rs111q (fun d => slices_IndexFunc_Pay__view_May_fn1_fn1 k d.1 d.2.1 d.2.2.1 d.2.2.2.1 d.2.2.2.2.1 d.2.2.2.2.2.1 d.2.2.2.2.2.2.1 d.2.2.2.2.2.2.2.1) pk111q nm args h)
theorem ev111q (k : Nat) (d : AD as111q) : evF E111q A111q k 1000 0 Proofs.Try.f109 (absArgs as111q d).1 (absArgs as111q d).2 (outM rs111q up111q) = slices_IndexFunc_Pay__view_May_fn1_fn1 k d.1 d.2.1 d.2.2.1 d.2.2.2.1 d.2.2.2.2.1 d.2.2.2.2.2.1 d.2.2.2.2.2.2.1 d.2.2.2.2.2.2.2.1 := by
  obtain ⟨_, _, _, _, _, _, _, _, _⟩ := d
  kernel_rfl
theorem Ro111q : EntryOK Proofs.Try.prog R111q := fun k _ _ _ _ _ hy =>
  entry_sound (unpack := up111q) (A := A111q) (k := k) (pre := 1000) (na := 0) (E := E111q) Eo111q El111q mixed_orders (f := 109) (fn := Proofs.Try.f109) (by kernel_rfl) (body_loops (loopsOK_of (n := 1) (by kernel_rfl) fun i hi => match i, hi with | 0, _ => ⟨L111_0q, by kernel_rfl, lk111_0q⟩ | i + 1, hi => absurd hi (by omega))) (enters (fn := Proofs.Try.f109) (by kernel_rfl) (by kernel_rfl) (by kernel_rfl)) (fun _ => rfl) (ev111q k) hy
theorem Rl111q : EntryLocal R111q.2 := entry_local (S := fun k (d : AD as111q) => slices_IndexFunc_Pay__view_May_fn1_fn1 k d.1 d.2.1 d.2.2.1 d.2.2.2.1 d.2.2.2.2.1 d.2.2.2.2.2.1 d.2.2.2.2.2.2.1 d.2.2.2.2.2.2.2.1)

/-! ### slices.ContainsFunc[[]giro/api.Pay,giro/api.Pay] -/
noncomputable def E112q : Env := ⟨Proofs.Try.prog, fun _ => false, sumsOf [R111q]⟩
def A112q : Notes := ⟨[], []⟩
theorem Eo112q : EnvOK E112q := ⟨eqOK_none, sumsOf_ok (List.forall_mem_cons.2 ⟨Ro111q, List.forall_mem_nil _⟩)⟩
theorem El112q : SumsLocal E112q.sums := sumsOf_local (List.forall_mem_cons.2 ⟨Rl111q, List.forall_mem_nil _⟩)
def as112q : List AS := [.c (.dat false y7q), .fn 137 [[.int .i64, .int .i64, .int .i64, .int .i64, .int .i64, .int .i64, .int .i64]]]
def rs112q : RS := .c (.bool)
def pk112q : Bool → RL rs112q.cells := fun x => (x, ())
def up112q : RL rs112q.cells → Bool := fun d => d.1
def R112q : Nat × Entry := (88, fun k nm args h => entry as112q rs112q (fun d => slices_ContainsFunc_Pay__view_May_fn1_fn1 k d.1 d.2.1 d.2.2.1 d.2.2.2.1 d.2.2.2.2.1 d.2.2.2.2.2.1 d.2.2.2.2.2.2.1 d.2.2.2.2.2.2.2.1) pk112q nm args h)
theorem ev112q (k : Nat) (d : AD as112q) : evF E112q A112q k 1000 0 Proofs.Try.f88 (absArgs as112q d).1 (absArgs as112q d).2 (outM rs112q up112q) = slices_ContainsFunc_Pay__view_May_fn1_fn1 k d.1 d.2.1 d.2.2.1 d.2.2.2.1 d.2.2.2.2.1 d.2.2.2.2.2.1 d.2.2.2.2.2.2.1 d.2.2.2.2.2.2.2.1 := by
  obtain ⟨_, _, _, _, _, _, _, _, _⟩ := d
  kernel_rfl
theorem Ro112q : EntryOK Proofs.Try.prog R112q := fun k _ _ _ _ _ hy =>
  entry_sound (unpack := up112q) (A := A112q) (k := k) (pre := 1000) (na := 0) (E := E112q) Eo112q El112q mixed_orders (f := 88) (fn := Proofs.Try.f88) (by kernel_rfl) (body_loops (loopsOK_none (by kernel_rfl))) (enters (fn := Proofs.Try.f88) (by kernel_rfl) (by kernel_rfl) (by kernel_rfl)) (fun _ => rfl) (ev112q k) hy
theorem Rl112q : EntryLocal R112q.2 := entry_local (S := fun k (d : AD as112q) => slices_ContainsFunc_Pay__view_May_fn1_fn1 k d.1 d.2.1 d.2.2.1 d.2.2.2.1 d.2.2.2.2.1 d.2.2.2.2.2.1 d.2.2.2.2.2.2.1 d.2.2.2.2.2.2.2.1)

/-! ### giro/view.May$1 -/
noncomputable def E113q : Env := ⟨Proofs.Try.prog, fun _ => false, sumsOf [R112q]⟩
def A113q : Notes := ⟨[], []⟩
theorem Eo113q : EnvOK E113q := ⟨eqOK_none, sumsOf_ok (List.forall_mem_cons.2 ⟨Ro112q, List.forall_mem_nil _⟩)⟩
theorem El113q : SumsLocal E113q.sums := sumsOf_local (List.forall_mem_cons.2 ⟨Rl112q, List.forall_mem_nil _⟩)
def as113q : List AX := [.agg [.int .i64, .int .i64, .int .i64, .int .i64, .int .i64, .int .i64, .int .i64], .ptr true [.map], .ptr false [.p (.dat false y7q)]]
def rs113q : RS := .c (.bool)
def os113q : List (List RC) := [[.map]]
def pk113q : Bool × (List (Int × Bool)) → RL (rs113q.cells ++ os113q.flatten) := fun x => (x.1, x.2, ())
def up113q : RL (rs113q.cells ++ os113q.flatten) → Bool × (List (Int × Bool)) := fun d => (d.1, d.2.1)
def R113q : Nat × Entry := (136, fun k nm args h => entryX as113q rs113q os113q (fun d => view_May_fn1 k d.1 d.2.1 d.2.2.1 d.2.2.2.1 d.2.2.2.2.1 d.2.2.2.2.2.1 d.2.2.2.2.2.2.1 d.2.2.2.2.2.2.2.1 d.2.2.2.2.2.2.2.2.1) pk113q nm args h)
theorem ev113q (k : Nat) (d : XD as113q) : evF E113q A113q k 1000 3 Proofs.Try.f136 (absArgsX as113q d).1 (absArgsX as113q d).2 (outXM as113q rs113q os113q up113q) = view_May_fn1 k d.1 d.2.1 d.2.2.1 d.2.2.2.1 d.2.2.2.2.1 d.2.2.2.2.2.1 d.2.2.2.2.2.2.1 d.2.2.2.2.2.2.2.1 d.2.2.2.2.2.2.2.2.1 := by
  obtain ⟨_, _, _, _, _, _, _, _, _, _⟩ := d
  kernel_rfl
theorem Ro113q : EntryOK Proofs.Try.prog R113q := fun k _ _ _ _ _ hy =>
  entryX_sound (unpack := up113q) (A := A113q) (k := k) (pre := 1000) (na := 3) (E := E113q) Eo113q El113q mixed_orders (f := 136) (fn := Proofs.Try.f136) (by kernel_rfl) (body_loops (loopsOK_none (by kernel_rfl))) (enters (fn := Proofs.Try.f136) (by kernel_rfl) (by kernel_rfl) (by kernel_rfl)) (fun _ => rfl) (by kernel_rfl) (ev113q k) hy
theorem Rl113q : EntryLocal R113q.2 := entryX_local (S := fun k (d : XD as113q) => view_May_fn1 k d.1 d.2.1 d.2.2.1 d.2.2.2.1 d.2.2.2.2.1 d.2.2.2.2.2.1 d.2.2.2.2.2.2.1 d.2.2.2.2.2.2.2.1 d.2.2.2.2.2.2.2.2.1)

/-! ### giro/view.all -/
noncomputable def E114q : Env := ⟨Proofs.Try.prog, fun _ => false, sumsOf [R113q]⟩
def I114_0q : Spec := ⟨[(1, .c (.lit (.fn 136 [1001000, 1001002]))), (5, .c (.lit (.osl 1001003 none))), (8, .c (.dat false y7q)), (9, .c (.int .i64)), (10, .c (.int .i64))], [.box true [.lit (.map 1001001)], .imap, .robox [.dat false y7q], .arr true y7q], [(5, none, y7q, false)]⟩
def X0_114_0q : Spec := ⟨[(1, .c (.lit (.fn 136 [1001000, 1001002]))), (5, .c (.lit (.osl 1001003 none)))], [.box true [.lit (.map 1001001)], .imap, .robox [.dat false y7q], .arr true y7q], []⟩
def O114_0q : List (Ex × Spec) := [(.exit 0, X0_114_0q)]
abbrev Z114_0q : Type := (List (Int × Bool)) × (List K1q) × (List K1q)
def c114_0q (f : List K1q → Int → Int → List (Int × Bool) → List K1q → List K1q → Option Z114_0q) (d : I114_0q.den) : Option Z114_0q := f d.1.2.2.1.1 d.1.2.2.2.1.1 d.1.2.2.2.2.1.1 d.2.2.1 d.2.2.2.1.1 d.2.2.2.2.1
def T114_0q : OutD O114_0q → Z114_0q := fun d => (d.2.2.1, d.2.2.2.1.1, d.2.2.2.2.1)
def e114_0q (base : Nat) (x : Z114_0q) (R : Type) (K : Ex → St → Option R) : Option R := K (.exit 0) (stOf base X0_114_0q (((), (), ()), ((), x.1, (x.2.1, ()), x.2.2, ())))
def L114_0q : LoopSum := ⟨I114_0q, O114_0q, Z114_0q, fun k d => c114_0q (view_all__view_May_fn1_L0 k k) d, e114_0q⟩
def A114q : Notes := ⟨[], [(3, L114_0q)]⟩
theorem Eo114q : EnvOK E114q := ⟨eqOK_none, sumsOf_ok (List.forall_mem_cons.2 ⟨Ro113q, List.forall_mem_nil _⟩)⟩
theorem El114q : SumsLocal E114q.sums := sumsOf_local (List.forall_mem_cons.2 ⟨Rl113q, List.forall_mem_nil _⟩)
theorem st114_0q (k : Nat) (rec : List K1q → Int → Int → List (Int × Bool) → List K1q → List K1q → Option Z114_0q) (d : I114_0q.den) : c114_0q (view_all__view_May_fn1_L0b k rec) d = evC E114q A114q k 1000 2 23 (loopAt (bodyOf Proofs.Try.f83) 0) (stOf (1000 + loopBase) I114_0q d) (roundK 1000 I114_0q O114_0q T114_0q (c114_0q rec)) := by
  obtain ⟨⟨_, _, ⟨_, _⟩, ⟨_, _⟩, ⟨_, _⟩, _⟩, ⟨_, _, ⟨_, _⟩, _, _⟩⟩ := d
  kernel_rfl
theorem lk114_0q : LoopOK Proofs.Try.prog 1000 2 23 (loopAt (bodyOf Proofs.Try.f83) 0) L114_0q :=
  loop_sound (A := A114q) (inS := I114_0q) (outs := O114_0q) Eo114q El114q mixed_orders (loopsOK_none (by kernel_rfl)) T114_0q e114_0q (fun _ _ _ => rfl) (fun k n d => c114_0q (view_all__view_May_fn1_L0 k n) d) (fun _ _ => rfl) (fun k n d => st114_0q k (view_all__view_May_fn1_L0 k n) d)
def as114q : List AX := [.c (.p (.dat false y7q)), .fn 136 [(true, [.map]), (false, [.p (.dat false y7q)])]]
def rs114q : RS := .c (.own y7q)
def os114q : List (List RC) := [[.map]]
def pk114q : (List K1q) × (List (Int × Bool)) → RL (rs114q.cells ++ os114q.flatten) := fun x => (x.1, x.2, ())
def up114q : RL (rs114q.cells ++ os114q.flatten) → (List K1q) × (List (Int × Bool)) := fun d => (d.1, d.2.1)
def R114q : Nat × Entry := (83, fun k nm args h => entryX as114q rs114q os114q (fun d => view_all__view_May_fn1 k d.1 d.2.1 d.2.2.1) pk114q nm args h)
theorem ev114q (k : Nat) (d : XD as114q) : evF E114q A114q k 1000 2 Proofs.Try.f83 (absArgsX as114q d).1 (absArgsX as114q d).2 (outXM as114q rs114q os114q up114q) = view_all__view_May_fn1 k d.1 d.2.1 d.2.2.1 := by
  obtain ⟨_, _, _, _⟩ := d
  kernel_rfl
theorem Ro114q : EntryOK Proofs.Try.prog R114q := fun k _ _ _ _ _ hy =>
  entryX_sound (unpack := up114q) (A := A114q) (k := k) (pre := 1000) (na := 2) (E := E114q) Eo114q El114q mixed_orders (f := 83) (fn := Proofs.Try.f83) (by kernel_rfl) (body_loops (loopsOK_of (n := 1) (by kernel_rfl) fun i hi => match i, hi with | 0, _ => ⟨L114_0q, by kernel_rfl, lk114_0q⟩ | i + 1, hi => absurd hi (by omega))) (enters (fn := Proofs.Try.f83) (by kernel_rfl) (by kernel_rfl) (by kernel_rfl)) (fun _ => rfl) (by kernel_rfl) (ev114q k) hy
theorem Rl114q : EntryLocal R114q.2 := entryX_local (S := fun k (d : XD as114q) => view_all__view_May_fn1 k d.1 d.2.1 d.2.2.1)

/-! ### giro/view.May -/
noncomputable def E115q : Env := ⟨Proofs.Try.prog, fun _ => false, sumsOf [R10q, R114q]⟩
def A115q : Notes := ⟨[], []⟩
theorem Eo115q : EnvOK E115q := ⟨eqOK_none, sumsOf_ok (List.forall_mem_cons.2 ⟨Ro10q, List.forall_mem_cons.2 ⟨Ro114q, List.forall_mem_nil _⟩⟩)⟩
theorem El115q : SumsLocal E115q.sums := sumsOf_local (List.forall_mem_cons.2 ⟨Rl10q, List.forall_mem_cons.2 ⟨Rl114q, List.forall_mem_nil _⟩⟩)
def as115q : List AS := [.c (.dat false y7q), .c (.int .i64)]
def rs115q : RS := .c (.own y7q)
def pk115q : List K1q → RL rs115q.cells := fun x => (x, ())
def up115q : RL rs115q.cells → List K1q := fun d => d.1
def R115q : Nat × Entry := (133, fun k nm args h => entry as115q rs115q (fun d => view_May k d.1 d.2.1) pk115q nm args h)
theorem ev115q (k : Nat) (d : AD as115q) : evF E115q A115q k 1000 0 Proofs.Try.f133 (absArgs as115q d).1 (absArgs as115q d).2 (outM rs115q up115q) = view_May k d.1 d.2.1 := by
  obtain ⟨_, _, _⟩ := d
  kernel_rfl
theorem Ro115q : EntryOK Proofs.Try.prog R115q := fun k _ _ _ _ _ hy =>
  entry_sound (unpack := up115q) (A := A115q) (k := k) (pre := 1000) (na := 0) (E := E115q) Eo115q El115q mixed_orders (f := 133) (fn := Proofs.Try.f133) (by kernel_rfl) (body_loops (loopsOK_none (by kernel_rfl))) (enters (fn := Proofs.Try.f133) (by kernel_rfl) (by kernel_rfl) (by kernel_rfl)) (fun _ => rfl) (ev115q k) hy
theorem Rl115q : EntryLocal R115q.2 := entry_local (S := fun k (d : AD as115q) => view_May k d.1 d.2.1)

/-! ### giro/fits.Fits$1 -/
noncomputable def E116q : Env := ⟨Proofs.Try.prog, fun _ => false, sumsOf [R45q]⟩
def A116q : Notes := ⟨[], []⟩
theorem Eo116q : EnvOK E116q := ⟨eqOK_none, sumsOf_ok (List.forall_mem_cons.2 ⟨Ro45q, List.forall_mem_nil _⟩)⟩
theorem El116q : SumsLocal E116q.sums := sumsOf_local (List.forall_mem_cons.2 ⟨Rl45q, List.forall_mem_nil _⟩)
def as116q : List AS := [.agg [.int .i64, .int .i64, .int .i64, .int .i64, .int .i64, .int .i64, .int .i64], .ptr [.dat false y3q, .dat false (.sl (.int .i64)), .dat false (.int .i64), .dat false (.sl (.int .i64))]]
def rs116q : RS := .c (.bool)
def pk116q : Bool → RL rs116q.cells := fun x => (x, ())
def up116q : RL rs116q.cells → Bool := fun d => d.1
def R116q : Nat × Entry := (138, fun k nm args h => entry as116q rs116q (fun d => fits_Fits_fn1 k d.1 d.2.1 d.2.2.1 d.2.2.2.1 d.2.2.2.2.1 d.2.2.2.2.2.1 d.2.2.2.2.2.2.1 d.2.2.2.2.2.2.2.1 d.2.2.2.2.2.2.2.2.1 d.2.2.2.2.2.2.2.2.2.1 d.2.2.2.2.2.2.2.2.2.2.1) pk116q nm args h)
theorem ev116q (k : Nat) (d : AD as116q) : evF E116q A116q k 1000 0 Proofs.Try.f138 (absArgs as116q d).1 (absArgs as116q d).2 (outM rs116q up116q) = fits_Fits_fn1 k d.1 d.2.1 d.2.2.1 d.2.2.2.1 d.2.2.2.2.1 d.2.2.2.2.2.1 d.2.2.2.2.2.2.1 d.2.2.2.2.2.2.2.1 d.2.2.2.2.2.2.2.2.1 d.2.2.2.2.2.2.2.2.2.1 d.2.2.2.2.2.2.2.2.2.2.1 := by
  obtain ⟨_, _, _, _, _, _, _, _, _, _, _, _⟩ := d
  kernel_rfl
theorem Ro116q : EntryOK Proofs.Try.prog R116q := fun k _ _ _ _ _ hy =>
  entry_sound (unpack := up116q) (A := A116q) (k := k) (pre := 1000) (na := 0) (E := E116q) Eo116q El116q mixed_orders (f := 138) (fn := Proofs.Try.f138) (by kernel_rfl) (body_loops (loopsOK_none (by kernel_rfl))) (enters (fn := Proofs.Try.f138) (by kernel_rfl) (by kernel_rfl) (by kernel_rfl)) (fun _ => rfl) (ev116q k) hy
theorem Rl116q : EntryLocal R116q.2 := entry_local (S := fun k (d : AD as116q) => fits_Fits_fn1 k d.1 d.2.1 d.2.2.1 d.2.2.2.1 d.2.2.2.2.1 d.2.2.2.2.2.1 d.2.2.2.2.2.2.1 d.2.2.2.2.2.2.2.1 d.2.2.2.2.2.2.2.2.1 d.2.2.2.2.2.2.2.2.2.1 d.2.2.2.2.2.2.2.2.2.2.1)

/-! ### slices.IndexFunc[[]giro/api.Pay,giro/api.Pay] -/
noncomputable def E117q : Env := ⟨Proofs.Try.prog, fun _ => false, sumsOf [R116q]⟩
def I117_0q : Spec := ⟨[(0, .c (.dat false y7q)), (1, .c (.lit (.fn 138 [1001000]))), (7, .c (.int .i64)), (8, .c (.int .i64))], [.robox [.dat false y3q, .dat false (.sl (.int .i64)), .dat false (.int .i64), .dat false (.sl (.int .i64))]], []⟩
def X0_117_0q : Spec := ⟨[], [], []⟩
def X1_117_0q : Spec := ⟨[(4, .c (.int .i64))], [], []⟩
def O117_0q : List (Ex × Spec) := [(.exit 0, X0_117_0q), (.ret, X1_117_0q)]
abbrev Z117_0q : Type := Unit ⊕ Int
def c117_0q (f : List K1q → Int → Int → List K2q → List (List Int) → List Int → List (List Int) → Option Z117_0q) (d : I117_0q.den) : Option Z117_0q := f d.1.1.1 d.1.2.2.1.1 d.1.2.2.2.1.1 d.2.1.1 d.2.1.2.1 d.2.1.2.2.1 d.2.1.2.2.2.1
def T117_0q : OutD O117_0q → Z117_0q
 | .inl d => .inl ()
 | .inr d => .inr d.1.1.1
def e117_0q (base : Nat) (x : Z117_0q) (R : Type) (K : Ex → St → Option R) : Option R := match x with
 | .inl x => K (.exit 0) (stOf base X0_117_0q ((), ()))
 | .inr x => K .ret (stOf base X1_117_0q (((x, ()), ()), ()))
def L117_0q : LoopSum := ⟨I117_0q, O117_0q, Z117_0q, fun k d => c117_0q (slices_IndexFunc_Pay__fits_Fits_fn1_L0 k k) d, e117_0q⟩
def A117q : Notes := ⟨[], [(2, L117_0q)]⟩
theorem Eo117q : EnvOK E117q := ⟨eqOK_none, sumsOf_ok (List.forall_mem_cons.2 ⟨Ro116q, List.forall_mem_nil _⟩)⟩
theorem El117q : SumsLocal E117q.sums := sumsOf_local (List.forall_mem_cons.2 ⟨Rl116q, List.forall_mem_nil _⟩)
theorem st117_0q (k : Nat) (rec : List K1q → Int → Int → List K2q → List (List Int) → List Int → List (List Int) → Option Z117_0q) (d : I117_0q.den) : c117_0q (slices_IndexFunc_Pay__fits_Fits_fn1_L0b k rec) d = evC E117q A117q k 1000 0 19 (loopAt (bodyOf Proofs.Try.f109) 0) (stOf (1000 + loopBase) I117_0q d) (roundK 1000 I117_0q O117_0q T117_0q (c117_0q rec)) := by
  obtain ⟨⟨⟨_, _⟩, _, ⟨_, _⟩, ⟨_, _⟩, _⟩, ⟨⟨_, _, _, _, _⟩, _⟩⟩ := d
  kernel_rfl
theorem lk117_0q : LoopOK Proofs.Try.prog 1000 0 19 (loopAt (bodyOf Proofs.Try.f109) 0) L117_0q :=
  loop_sound (A := A117q) (inS := I117_0q) (outs := O117_0q) Eo117q El117q mixed_orders (loopsOK_none (by kernel_rfl)) T117_0q e117_0q (by intro o R K; rcases o with o | o <;> rfl) (fun k n d => c117_0q (slices_IndexFunc_Pay__fits_Fits_fn1_L0 k n) d) (fun _ _ => rfl) (fun k n d => st117_0q k (slices_IndexFunc_Pay__fits_Fits_fn1_L0 k n) d)
def as117q : List AS := [.c (.dat false y7q), .fn 138 [[.dat false y3q, .dat false (.sl (.int .i64)), .dat false (.int .i64), .dat false (.sl (.int .i64))]]]
def rs117q : RS := .c (.int .i64)
def pk117q : Int → RL rs117q.cells := fun x => (x, ())
def up117q : RL rs117q.cells → Int := fun d => d.1
def R117q : Nat × Entry := (109, fun k nm args h => entry as117q rs117q (fun d => slices_IndexFunc_Pay__fits_Fits_fn1 k d.1 d.2.1 d.2.2.1 d.2.2.2.1 d.2.2.2.2.1) pk117q nm args h)
theorem ev117q (k : Nat) (d : AD as117q) : evF E117q A117q k 1000 0 Proofs.Try.f109 (absArgs as117q d).1 (absArgs as117q d).2 (outM rs117q up117q) = slices_IndexFunc_Pay__fits_Fits_fn1 k d.1 d.2.1 d.2.2.1 d.2.2.2.1 d.2.2.2.2.1 := by
  obtain ⟨_, _, _, _, _, _⟩ := d
  kernel_rfl
theorem Ro117q : EntryOK Proofs.Try.prog R117q := fun k _ _ _ _ _ hy =>
  entry_sound (unpack := up117q) (A := A117q) (k := k) (pre := 1000) (na := 0) (E := E117q) Eo117q El117q mixed_orders (f := 109) (fn := Proofs.Try.f109) (by kernel_rfl) (body_loops (loopsOK_of (n := 1) (by kernel_rfl) fun i hi => match i, hi with | 0, _ => ⟨L117_0q, by kernel_rfl, lk117_0q⟩ | i + 1, hi => absurd hi (by omega))) (enters (fn := Proofs.Try.f109) (by kernel_rfl) (by kernel_rfl) (by kernel_rfl)) (fun _ => rfl) (ev117q k) hy
theorem Rl117q : EntryLocal R117q.2 := entry_local (S := fun k (d : AD as117q) => slices_IndexFunc_Pay__fits_Fits_fn1 k d.1 d.2.1 d.2.2.1 d.2.2.2.1 d.2.2.2.2.1)

/-! ### slices.ContainsFunc[[]giro/api.Pay,giro/api.Pay] -/
noncomputable def E118q : Env := ⟨Proofs.Try.prog, fun _ => false, sumsOf [R117q]⟩
def A118q : Notes := ⟨[], []⟩
theorem Eo118q : EnvOK E118q := ⟨eqOK_none, sumsOf_ok (List.forall_mem_cons.2 ⟨Ro117q, List.forall_mem_nil _⟩)⟩
theorem El118q : SumsLocal E118q.sums := sumsOf_local (List.forall_mem_cons.2 ⟨Rl117q, List.forall_mem_nil _⟩)
def as118q : List AS := [.c (.dat false y7q), .fn 138 [[.dat false y3q, .dat false (.sl (.int .i64)), .dat false (.int .i64), .dat false (.sl (.int .i64))]]]
def rs118q : RS := .c (.bool)
def pk118q : Bool → RL rs118q.cells := fun x => (x, ())
def up118q : RL rs118q.cells → Bool := fun d => d.1
def R118q : Nat × Entry := (88, fun k nm args h => entry as118q rs118q (fun d => slices_ContainsFunc_Pay__fits_Fits_fn1 k d.1 d.2.1 d.2.2.1 d.2.2.2.1 d.2.2.2.2.1) pk118q nm args h)
theorem ev118q (k : Nat) (d : AD as118q) : evF E118q A118q k 1000 0 Proofs.Try.f88 (absArgs as118q d).1 (absArgs as118q d).2 (outM rs118q up118q) = slices_ContainsFunc_Pay__fits_Fits_fn1 k d.1 d.2.1 d.2.2.1 d.2.2.2.1 d.2.2.2.2.1 := by
  obtain ⟨_, _, _, _, _, _⟩ := d
  kernel_rfl
theorem Ro118q : EntryOK Proofs.Try.prog R118q := fun k _ _ _ _ _ hy =>
  entry_sound (unpack := up118q) (A := A118q) (k := k) (pre := 1000) (na := 0) (E := E118q) Eo118q El118q mixed_orders (f := 88) (fn := Proofs.Try.f88) (by kernel_rfl) (body_loops (loopsOK_none (by kernel_rfl))) (enters (fn := Proofs.Try.f88) (by kernel_rfl) (by kernel_rfl) (by kernel_rfl)) (fun _ => rfl) (ev118q k) hy
theorem Rl118q : EntryLocal R118q.2 := entry_local (S := fun k (d : AD as118q) => slices_ContainsFunc_Pay__fits_Fits_fn1 k d.1 d.2.1 d.2.2.1 d.2.2.2.1 d.2.2.2.2.1)

/-! ### giro/fits.Fits -/
noncomputable def E119q : Env := ⟨Proofs.Try.prog, fun _ => false, sumsOf [R118q, R32q]⟩
def A119q : Notes := ⟨[], []⟩
theorem Eo119q : EnvOK E119q := ⟨eqOK_none, sumsOf_ok (List.forall_mem_cons.2 ⟨Ro118q, List.forall_mem_cons.2 ⟨Ro32q, List.forall_mem_nil _⟩⟩)⟩
theorem El119q : SumsLocal E119q.sums := sumsOf_local (List.forall_mem_cons.2 ⟨Rl118q, List.forall_mem_cons.2 ⟨Rl32q, List.forall_mem_nil _⟩⟩)
def as119q : List AS := [.agg [.dat false y3q, .dat false (.sl (.int .i64)), .dat false (.int .i64), .dat false (.sl (.int .i64))], .c (.dat false y7q)]
def rs119q : RS := .c (.bool)
def pk119q : Bool → RL rs119q.cells := fun x => (x, ())
def up119q : RL rs119q.cells → Bool := fun d => d.1
def R119q : Nat × Entry := (134, fun k nm args h => entry as119q rs119q (fun d => fits_Fits k d.1 d.2.1 d.2.2.1 d.2.2.2.1 d.2.2.2.2.1) pk119q nm args h)
theorem ev119q (k : Nat) (d : AD as119q) : evF E119q A119q k 1000 0 Proofs.Try.f134 (absArgs as119q d).1 (absArgs as119q d).2 (outM rs119q up119q) = fits_Fits k d.1 d.2.1 d.2.2.1 d.2.2.2.1 d.2.2.2.2.1 := by
  obtain ⟨_, _, _, _, _, _⟩ := d
  kernel_rfl
theorem Ro119q : EntryOK Proofs.Try.prog R119q := fun k _ _ _ _ _ hy =>
  entry_sound (unpack := up119q) (A := A119q) (k := k) (pre := 1000) (na := 0) (E := E119q) Eo119q El119q mixed_orders (f := 134) (fn := Proofs.Try.f134) (by kernel_rfl) (body_loops (loopsOK_none (by kernel_rfl))) (enters (fn := Proofs.Try.f134) (by kernel_rfl) (by kernel_rfl) (by kernel_rfl)) (fun _ => rfl) (ev119q k) hy
theorem Rl119q : EntryLocal R119q.2 := entry_local (S := fun k (d : AD as119q) => fits_Fits k d.1 d.2.1 d.2.2.1 d.2.2.2.1 d.2.2.2.2.1)

/-! ### giro/free.next -/
noncomputable def E120q : Env := ⟨Proofs.Try.prog, fun _ => false, sumsOf [R115q, R119q, R72q]⟩
def I120_0q : Spec := ⟨[(3, .c (.lit (.ptr 1001000 0))), (6, .c (.lit (.ptr 1001001 0))), (7, .c (.lit (.ptr 1001002 0))), (15, .c (.lit (.osl 1001003 none))), (16, .c (.int .i64)), (17, .c (.int .i64))], [.box true [.dat true y3q, .dat true (.sl (.int .i64)), .dat true (.int .i64), .dat true (.sl (.int .i64))], .box true [.int .i64, .int .i64, .int .i64, .int .i64, .int .i64, .int .i64, .int .i64], .box true [.lit .nsl, .lit .nsl, .lit .nsl, .lit .nsl], .arr true y7q], []⟩
def X0_120_0q : Spec := ⟨[(3, .c (.lit (.ptr 1001000 0))), (6, .c (.lit (.ptr 1001001 0))), (7, .c (.lit (.ptr 1001002 0)))], [.box true [.dat true y3q, .dat true (.sl (.int .i64)), .dat true (.int .i64), .dat true (.sl (.int .i64))], .box true [.int .i64, .int .i64, .int .i64, .int .i64, .int .i64, .int .i64, .int .i64], .box true [.lit .nsl, .lit .nsl, .lit .nsl, .lit .nsl]], []⟩
def X1_120_0q : Spec := ⟨[(6, .c (.lit (.ptr 1001000 0))), (7, .c (.lit (.ptr 1001001 0))), (8, .c (.bool))], [.box true [.int .i64, .int .i64, .int .i64, .int .i64, .int .i64, .int .i64, .int .i64], .box true [.dat true y3q, .dat true (.sl (.int .i64)), .dat true (.int .i64), .dat true (.sl (.int .i64))]], []⟩
def O120_0q : List (Ex × Spec) := [(.exit 0, X0_120_0q), (.ret, X1_120_0q)]
abbrev Z120_0q : Type := ((List K2q) × (List (List Int)) × (List Int) × (List (List Int)) × Int × Int × Int × Int × Int × Int × Int) ⊕ (Bool × Int × Int × Int × Int × Int × Int × Int × (List K2q) × (List (List Int)) × (List Int) × (List (List Int)))
def c120_0q (f : Int → Int → List K2q → List (List Int) → List Int → List (List Int) → Int → Int → Int → Int → Int → Int → Int → List K1q → Option Z120_0q) (d : I120_0q.den) : Option Z120_0q := f d.1.2.2.2.2.1.1 d.1.2.2.2.2.2.1.1 d.2.1.1 d.2.1.2.1 d.2.1.2.2.1 d.2.1.2.2.2.1 d.2.2.1.1 d.2.2.1.2.1 d.2.2.1.2.2.1 d.2.2.1.2.2.2.1 d.2.2.1.2.2.2.2.1 d.2.2.1.2.2.2.2.2.1 d.2.2.1.2.2.2.2.2.2.1 d.2.2.2.2.1
def T120_0q : OutD O120_0q → Z120_0q
 | .inl d => .inl (d.2.1.1, d.2.1.2.1, d.2.1.2.2.1, d.2.1.2.2.2.1, d.2.2.1.1, d.2.2.1.2.1, d.2.2.1.2.2.1, d.2.2.1.2.2.2.1, d.2.2.1.2.2.2.2.1, d.2.2.1.2.2.2.2.2.1, d.2.2.1.2.2.2.2.2.2.1)
 | .inr d => .inr (d.1.2.2.1.1, d.2.1.1, d.2.1.2.1, d.2.1.2.2.1, d.2.1.2.2.2.1, d.2.1.2.2.2.2.1, d.2.1.2.2.2.2.2.1, d.2.1.2.2.2.2.2.2.1, d.2.2.1.1, d.2.2.1.2.1, d.2.2.1.2.2.1, d.2.2.1.2.2.2.1)
def e120_0q (base : Nat) (x : Z120_0q) (R : Type) (K : Ex → St → Option R) : Option R := match x with
 | .inl x => K (.exit 0) (stOf base X0_120_0q (((), (), (), ()), ((x.1, x.2.1, x.2.2.1, x.2.2.2.1, ()), (x.2.2.2.2.1, x.2.2.2.2.2.1, x.2.2.2.2.2.2.1, x.2.2.2.2.2.2.2.1, x.2.2.2.2.2.2.2.2.1, x.2.2.2.2.2.2.2.2.2.1, x.2.2.2.2.2.2.2.2.2.2, ()), (), ())))
 | .inr x => K .ret (stOf base X1_120_0q (((), (), (x.1, ()), ()), ((x.2.1, x.2.2.1, x.2.2.2.1, x.2.2.2.2.1, x.2.2.2.2.2.1, x.2.2.2.2.2.2.1, x.2.2.2.2.2.2.2.1, ()), (x.2.2.2.2.2.2.2.2.1, x.2.2.2.2.2.2.2.2.2.1, x.2.2.2.2.2.2.2.2.2.2.1, x.2.2.2.2.2.2.2.2.2.2.2, ()), ())))
def L120_0q : LoopSum := ⟨I120_0q, O120_0q, Z120_0q, fun k d => c120_0q (free_next_L0 k k) d, e120_0q⟩
def A120q : Notes := ⟨[], [(2, L120_0q)]⟩
theorem Eo120q : EnvOK E120q := ⟨eqOK_none, sumsOf_ok (List.forall_mem_cons.2 ⟨Ro115q, List.forall_mem_cons.2 ⟨Ro119q, List.forall_mem_cons.2 ⟨Ro72q, List.forall_mem_nil _⟩⟩⟩)⟩
theorem El120q : SumsLocal E120q.sums := sumsOf_local (List.forall_mem_cons.2 ⟨Rl115q, List.forall_mem_cons.2 ⟨Rl119q, List.forall_mem_cons.2 ⟨Rl72q, List.forall_mem_nil _⟩⟩⟩)
theorem st120_0q (k : Nat) (rec : Int → Int → List K2q → List (List Int) → List Int → List (List Int) → Int → Int → Int → Int → Int → Int → Int → List K1q → Option Z120_0q) (d : I120_0q.den) : c120_0q (free_next_L0b k rec) d = evC E120q A120q k 1000 0 40 (loopAt (bodyOf Proofs.Try.f126) 0) (stOf (1000 + loopBase) I120_0q d) (roundK 1000 I120_0q O120_0q T120_0q (c120_0q rec)) := by
  obtain ⟨⟨_, _, _, _, ⟨_, _⟩, ⟨_, _⟩, _⟩, ⟨⟨_, _, _, _, _⟩, ⟨_, _, _, _, _, _, _, _⟩, _, _, _⟩⟩ := d
  kernel_rfl
theorem lk120_0q : LoopOK Proofs.Try.prog 1000 0 40 (loopAt (bodyOf Proofs.Try.f126) 0) L120_0q :=
  loop_sound (A := A120q) (inS := I120_0q) (outs := O120_0q) Eo120q El120q mixed_orders (loopsOK_none (by kernel_rfl)) T120_0q e120_0q (by intro o R K; rcases o with o | o <;> rfl) (fun k n d => c120_0q (free_next_L0 k n) d) (fun _ _ => rfl) (fun k n d => st120_0q k (free_next_L0 k n) d)
def as120q : List AS := [.agg [.dat true y3q, .dat true (.sl (.int .i64)), .dat true (.int .i64), .dat true (.sl (.int .i64))], .c (.dat true y7q), .c (.int .i64)]
def rs120q : RS := .tup [(true, [.int .i64, .int .i64, .int .i64, .int .i64, .int .i64, .int .i64, .int .i64]), (true, [.fro y3q, .fro (.sl (.int .i64)), .fro (.int .i64), .fro (.sl (.int .i64))]), (false, [.bool])]
def pk120q : Int × Int × Int × Int × Int × Int × Int × (List K2q) × (List (List Int)) × (List Int) × (List (List Int)) × Bool → RL rs120q.cells := fun x => (x.1, x.2.1, x.2.2.1, x.2.2.2.1, x.2.2.2.2.1, x.2.2.2.2.2.1, x.2.2.2.2.2.2.1, x.2.2.2.2.2.2.2.1, x.2.2.2.2.2.2.2.2.1, x.2.2.2.2.2.2.2.2.2.1, x.2.2.2.2.2.2.2.2.2.2.1, x.2.2.2.2.2.2.2.2.2.2.2, ())
def up120q : RL rs120q.cells → Int × Int × Int × Int × Int × Int × Int × (List K2q) × (List (List Int)) × (List Int) × (List (List Int)) × Bool := fun d => (d.1, d.2.1, d.2.2.1, d.2.2.2.1, d.2.2.2.2.1, d.2.2.2.2.2.1, d.2.2.2.2.2.2.1, d.2.2.2.2.2.2.2.1, d.2.2.2.2.2.2.2.2.1, d.2.2.2.2.2.2.2.2.2.1, d.2.2.2.2.2.2.2.2.2.2.1, d.2.2.2.2.2.2.2.2.2.2.2.1)
def R120q : Nat × Entry := (126, fun k nm args h => entry as120q rs120q (fun d => free_next k d.1 d.2.1 d.2.2.1 d.2.2.2.1 d.2.2.2.2.1 d.2.2.2.2.2.1) pk120q nm args h)
theorem ev120q (k : Nat) (d : AD as120q) : evF E120q A120q k 1000 0 Proofs.Try.f126 (absArgs as120q d).1 (absArgs as120q d).2 (outM rs120q up120q) = free_next k d.1 d.2.1 d.2.2.1 d.2.2.2.1 d.2.2.2.2.1 d.2.2.2.2.2.1 := by
  obtain ⟨_, _, _, _, _, _, _⟩ := d
  kernel_rfl
theorem Ro120q : EntryOK Proofs.Try.prog R120q := fun k _ _ _ _ _ hy =>
  entry_sound (unpack := up120q) (A := A120q) (k := k) (pre := 1000) (na := 0) (E := E120q) Eo120q El120q mixed_orders (f := 126) (fn := Proofs.Try.f126) (by kernel_rfl) (body_loops (loopsOK_of (n := 1) (by kernel_rfl) fun i hi => match i, hi with | 0, _ => ⟨L120_0q, by kernel_rfl, lk120_0q⟩ | i + 1, hi => absurd hi (by omega))) (enters (fn := Proofs.Try.f126) (by kernel_rfl) (by kernel_rfl) (by kernel_rfl)) (fun _ => rfl) (ev120q k) hy
theorem Rl120q : EntryLocal R120q.2 := entry_local (S := fun k (d : AD as120q) => free_next k d.1 d.2.1 d.2.2.1 d.2.2.2.1 d.2.2.2.2.1 d.2.2.2.2.2.1)

/-! ### giro/free.Run -/
noncomputable def E121q : Env := ⟨Proofs.Try.prog, fun _ => false, sumsOf [R120q, R78q]⟩
def I121_0q : Spec := ⟨[(2, .c (.int .i64)), (6, .c (.lit (.ptr 1001000 0))), (7, .c (.dat true y7q)), (8, .c (.lit (.osl 1001001 none)))], [.box true [.dat true y3q, .dat true (.sl (.int .i64)), .dat true (.int .i64), .dat true (.sl (.int .i64))], .arr true y7q], [(8, none, y7q, false)]⟩
def X0_121_0q : Spec := ⟨[(6, .c (.lit (.ptr 1001000 0))), (7, .c (.dat true y7q)), (8, .c (.lit (.osl 1001001 none)))], [.box true [.dat true y3q, .dat true (.sl (.int .i64)), .dat true (.int .i64), .dat true (.sl (.int .i64))], .arr true y7q], []⟩
def O121_0q : List (Ex × Spec) := [(.ret, X0_121_0q)]
abbrev Z121_0q : Type := (List K1q) × (List K2q) × (List (List Int)) × (List Int) × (List (List Int)) × (List K1q)
def c121_0q (f : Int → List K1q → List K2q → List (List Int) → List Int → List (List Int) → List K1q → Option Z121_0q) (d : I121_0q.den) : Option Z121_0q := f d.1.1.1 d.1.2.2.1.1 d.2.1.1 d.2.1.2.1 d.2.1.2.2.1 d.2.1.2.2.2.1 d.2.2.1
def T121_0q : OutD O121_0q → Z121_0q := fun d => (d.1.2.1.1, d.2.1.1, d.2.1.2.1, d.2.1.2.2.1, d.2.1.2.2.2.1, d.2.2.1)
def e121_0q (base : Nat) (x : Z121_0q) (R : Type) (K : Ex → St → Option R) : Option R := K .ret (stOf base X0_121_0q (((), (x.1, ()), (), ()), ((x.2.1, x.2.2.1, x.2.2.2.1, x.2.2.2.2.1, ()), x.2.2.2.2.2, ())))
def L121_0q : LoopSum := ⟨I121_0q, O121_0q, Z121_0q, fun k d => c121_0q (free_Run_L0 k k) d, e121_0q⟩
def A121q : Notes := ⟨[], [(2, L121_0q)]⟩
theorem Eo121q : EnvOK E121q := ⟨eqOK_none, sumsOf_ok (List.forall_mem_cons.2 ⟨Ro120q, List.forall_mem_cons.2 ⟨Ro78q, List.forall_mem_nil _⟩⟩)⟩
theorem El121q : SumsLocal E121q.sums := sumsOf_local (List.forall_mem_cons.2 ⟨Rl120q, List.forall_mem_cons.2 ⟨Rl78q, List.forall_mem_nil _⟩⟩)
theorem st121_0q (k : Nat) (rec : Int → List K1q → List K2q → List (List Int) → List Int → List (List Int) → List K1q → Option Z121_0q) (d : I121_0q.den) : c121_0q (free_Run_L0b k rec) d = evC E121q A121q k 1000 0 40 (loopAt (bodyOf Proofs.Try.f105) 0) (stOf (1000 + loopBase) I121_0q d) (roundK 1000 I121_0q O121_0q T121_0q (c121_0q rec)) := by
  obtain ⟨⟨⟨_, _⟩, _, ⟨_, _⟩, _, _⟩, ⟨⟨_, _, _, _, _⟩, _, _⟩⟩ := d
  kernel_rfl
theorem lk121_0q : LoopOK Proofs.Try.prog 1000 0 40 (loopAt (bodyOf Proofs.Try.f105) 0) L121_0q :=
  loop_sound (A := A121q) (inS := I121_0q) (outs := O121_0q) Eo121q El121q mixed_orders (loopsOK_none (by kernel_rfl)) T121_0q e121_0q (fun _ _ _ => rfl) (fun k n d => c121_0q (free_Run_L0 k n) d) (fun _ _ => rfl) (fun k n d => st121_0q k (free_Run_L0 k n) d)
def as121q : List AS := [.agg [.dat true y3q, .dat true (.sl (.int .i64)), .dat true (.int .i64), .dat true (.sl (.int .i64))], .c (.dat true y7q), .c (.int .i64)]
def rs121q : RS := .tup [(true, [.fro y3q, .fro (.sl (.int .i64)), .fro (.int .i64), .fro (.sl (.int .i64))]), (false, [.fro y7q]), (false, [.own y7q])]
def pk121q : (List K2q) × (List (List Int)) × (List Int) × (List (List Int)) × (List K1q) × (List K1q) → RL rs121q.cells := fun x => (x.1, x.2.1, x.2.2.1, x.2.2.2.1, x.2.2.2.2.1, x.2.2.2.2.2, ())
def up121q : RL rs121q.cells → (List K2q) × (List (List Int)) × (List Int) × (List (List Int)) × (List K1q) × (List K1q) := fun d => (d.1, d.2.1, d.2.2.1, d.2.2.2.1, d.2.2.2.2.1, d.2.2.2.2.2.1)
def R121q : Nat × Entry := (105, fun k nm args h => entry as121q rs121q (fun d => free_Run k d.1 d.2.1 d.2.2.1 d.2.2.2.1 d.2.2.2.2.1 d.2.2.2.2.2.1) pk121q nm args h)
theorem ev121q (k : Nat) (d : AD as121q) : evF E121q A121q k 1000 0 Proofs.Try.f105 (absArgs as121q d).1 (absArgs as121q d).2 (outM rs121q up121q) = free_Run k d.1 d.2.1 d.2.2.1 d.2.2.2.1 d.2.2.2.2.1 d.2.2.2.2.2.1 := by
  obtain ⟨_, _, _, _, _, _, _⟩ := d
  kernel_rfl
theorem Ro121q : EntryOK Proofs.Try.prog R121q := fun k _ _ _ _ _ hy =>
  entry_sound (unpack := up121q) (A := A121q) (k := k) (pre := 1000) (na := 0) (E := E121q) Eo121q El121q mixed_orders (f := 105) (fn := Proofs.Try.f105) (by kernel_rfl) (body_loops (loopsOK_of (n := 1) (by kernel_rfl) fun i hi => match i, hi with | 0, _ => ⟨L121_0q, by kernel_rfl, lk121_0q⟩ | i + 1, hi => absurd hi (by omega))) (enters (fn := Proofs.Try.f105) (by kernel_rfl) (by kernel_rfl) (by kernel_rfl)) (fun _ => rfl) (ev121q k) hy
theorem Rl121q : EntryLocal R121q.2 := entry_local (S := fun k (d : AD as121q) => free_Run k d.1 d.2.1 d.2.2.1 d.2.2.2.1 d.2.2.2.2.1 d.2.2.2.2.2.1)

/-! ### giro/pair.next -/
noncomputable def E122q : Env := ⟨Proofs.Try.prog, fun _ => false, sumsOf [R115q, R119q, R72q]⟩
def I122_0q : Spec := ⟨[(3, .c (.lit (.ptr 1001000 0))), (6, .c (.lit (.ptr 1001001 0))), (8, .c (.lit (.osl 1001002 none))), (10, .c (.lit (.ptr 1001003 0))), (18, .c (.lit (.osl 1001002 none))), (19, .c (.int .i64)), (20, .c (.int .i64)), (24, .c (.lit (.osl 1001002 none))), (25, .c (.int .i64)), (26, .c (.int .i64))], [.box true [.dat true y3q, .dat true (.sl (.int .i64)), .dat true (.int .i64), .dat true (.sl (.int .i64))], .box true [.int .i64, .int .i64, .int .i64, .int .i64, .int .i64, .int .i64, .int .i64, .int .i64, .int .i64, .int .i64, .int .i64, .int .i64, .int .i64, .int .i64, .lit .nsl, .lit .nsl, .lit .nsl, .lit .nsl], .arr true y7q, .box true [.int .i64, .int .i64, .int .i64, .int .i64, .int .i64, .int .i64, .int .i64]], []⟩
def X0_122_0q : Spec := ⟨[(3, .c (.lit (.ptr 1001000 0))), (6, .c (.lit (.ptr 1001001 0))), (8, .c (.lit (.osl 1001002 none))), (18, .c (.lit (.osl 1001002 none))), (19, .c (.int .i64)), (20, .c (.int .i64))], [.box true [.dat true y3q, .dat true (.sl (.int .i64)), .dat true (.int .i64), .dat true (.sl (.int .i64))], .box true [.int .i64, .int .i64, .int .i64, .int .i64, .int .i64, .int .i64, .int .i64, .int .i64, .int .i64, .int .i64, .int .i64, .int .i64, .int .i64, .int .i64, .lit .nsl, .lit .nsl, .lit .nsl, .lit .nsl], .arr true y7q], []⟩
def X1_122_0q : Spec := ⟨[(6, .c (.lit (.ptr 1001000 0))), (7, .c (.bool))], [.box true [.int .i64, .int .i64, .int .i64, .int .i64, .int .i64, .int .i64, .int .i64, .int .i64, .int .i64, .int .i64, .int .i64, .int .i64, .int .i64, .int .i64, .dat true y3q, .dat true (.sl (.int .i64)), .dat true (.int .i64), .dat true (.sl (.int .i64))]], []⟩
def O122_0q : List (Ex × Spec) := [(.exit 2, X0_122_0q), (.ret, X1_122_0q)]
abbrev Z122_0q : Type := (Int × Int × (List K2q) × (List (List Int)) × (List Int) × (List (List Int)) × Int × Int × Int × Int × Int × Int × Int × Int × Int × Int × Int × Int × Int × Int × (List K1q)) ⊕ (Bool × Int × Int × Int × Int × Int × Int × Int × Int × Int × Int × Int × Int × Int × Int × (List K2q) × (List (List Int)) × (List Int) × (List (List Int)))
def c122_0q (f : Int → Int → Int → Int → List K2q → List (List Int) → List Int → List (List Int) → Int → Int → Int → Int → Int → Int → Int → Int → Int → Int → Int → Int → Int → Int → List K1q → Int → Int → Int → Int → Int → Int → Int → Option Z122_0q) (d : I122_0q.den) : Option Z122_0q := f d.1.2.2.2.2.2.1.1 d.1.2.2.2.2.2.2.1.1 d.1.2.2.2.2.2.2.2.2.1.1 d.1.2.2.2.2.2.2.2.2.2.1.1 d.2.1.1 d.2.1.2.1 d.2.1.2.2.1 d.2.1.2.2.2.1 d.2.2.1.1 d.2.2.1.2.1 d.2.2.1.2.2.1 d.2.2.1.2.2.2.1 d.2.2.1.2.2.2.2.1 d.2.2.1.2.2.2.2.2.1 d.2.2.1.2.2.2.2.2.2.1 d.2.2.1.2.2.2.2.2.2.2.1 d.2.2.1.2.2.2.2.2.2.2.2.1 d.2.2.1.2.2.2.2.2.2.2.2.2.1 d.2.2.1.2.2.2.2.2.2.2.2.2.2.1 d.2.2.1.2.2.2.2.2.2.2.2.2.2.2.1 d.2.2.1.2.2.2.2.2.2.2.2.2.2.2.2.1 d.2.2.1.2.2.2.2.2.2.2.2.2.2.2.2.2.1 d.2.2.2.1 d.2.2.2.2.1.1 d.2.2.2.2.1.2.1 d.2.2.2.2.1.2.2.1 d.2.2.2.2.1.2.2.2.1 d.2.2.2.2.1.2.2.2.2.1 d.2.2.2.2.1.2.2.2.2.2.1 d.2.2.2.2.1.2.2.2.2.2.2.1
def T122_0q : OutD O122_0q → Z122_0q
 | .inl d => .inl (d.1.2.2.2.2.1.1, d.1.2.2.2.2.2.1.1, d.2.1.1, d.2.1.2.1, d.2.1.2.2.1, d.2.1.2.2.2.1, d.2.2.1.1, d.2.2.1.2.1, d.2.2.1.2.2.1, d.2.2.1.2.2.2.1, d.2.2.1.2.2.2.2.1, d.2.2.1.2.2.2.2.2.1, d.2.2.1.2.2.2.2.2.2.1, d.2.2.1.2.2.2.2.2.2.2.1, d.2.2.1.2.2.2.2.2.2.2.2.1, d.2.2.1.2.2.2.2.2.2.2.2.2.1, d.2.2.1.2.2.2.2.2.2.2.2.2.2.1, d.2.2.1.2.2.2.2.2.2.2.2.2.2.2.1, d.2.2.1.2.2.2.2.2.2.2.2.2.2.2.2.1, d.2.2.1.2.2.2.2.2.2.2.2.2.2.2.2.2.1, d.2.2.2.1)
 | .inr d => .inr (d.1.2.1.1, d.2.1.1, d.2.1.2.1, d.2.1.2.2.1, d.2.1.2.2.2.1, d.2.1.2.2.2.2.1, d.2.1.2.2.2.2.2.1, d.2.1.2.2.2.2.2.2.1, d.2.1.2.2.2.2.2.2.2.1, d.2.1.2.2.2.2.2.2.2.2.1, d.2.1.2.2.2.2.2.2.2.2.2.1, d.2.1.2.2.2.2.2.2.2.2.2.2.1, d.2.1.2.2.2.2.2.2.2.2.2.2.2.1, d.2.1.2.2.2.2.2.2.2.2.2.2.2.2.1, d.2.1.2.2.2.2.2.2.2.2.2.2.2.2.2.1, d.2.1.2.2.2.2.2.2.2.2.2.2.2.2.2.2.1, d.2.1.2.2.2.2.2.2.2.2.2.2.2.2.2.2.2.1, d.2.1.2.2.2.2.2.2.2.2.2.2.2.2.2.2.2.2.1, d.2.1.2.2.2.2.2.2.2.2.2.2.2.2.2.2.2.2.2.1)
def e122_0q (base : Nat) (x : Z122_0q) (R : Type) (K : Ex → St → Option R) : Option R := match x with
 | .inl x => K (.exit 2) (stOf base X0_122_0q (((), (), (), (), (x.1, ()), (x.2.1, ()), ()), ((x.2.2.1, x.2.2.2.1, x.2.2.2.2.1, x.2.2.2.2.2.1, ()), (x.2.2.2.2.2.2.1, x.2.2.2.2.2.2.2.1, x.2.2.2.2.2.2.2.2.1, x.2.2.2.2.2.2.2.2.2.1, x.2.2.2.2.2.2.2.2.2.2.1, x.2.2.2.2.2.2.2.2.2.2.2.1, x.2.2.2.2.2.2.2.2.2.2.2.2.1, x.2.2.2.2.2.2.2.2.2.2.2.2.2.1, x.2.2.2.2.2.2.2.2.2.2.2.2.2.2.1, x.2.2.2.2.2.2.2.2.2.2.2.2.2.2.2.1, x.2.2.2.2.2.2.2.2.2.2.2.2.2.2.2.2.1, x.2.2.2.2.2.2.2.2.2.2.2.2.2.2.2.2.2.1, x.2.2.2.2.2.2.2.2.2.2.2.2.2.2.2.2.2.2.1, x.2.2.2.2.2.2.2.2.2.2.2.2.2.2.2.2.2.2.2.1, ()), x.2.2.2.2.2.2.2.2.2.2.2.2.2.2.2.2.2.2.2.2, ())))
 | .inr x => K .ret (stOf base X1_122_0q (((), (x.1, ()), ()), ((x.2.1, x.2.2.1, x.2.2.2.1, x.2.2.2.2.1, x.2.2.2.2.2.1, x.2.2.2.2.2.2.1, x.2.2.2.2.2.2.2.1, x.2.2.2.2.2.2.2.2.1, x.2.2.2.2.2.2.2.2.2.1, x.2.2.2.2.2.2.2.2.2.2.1, x.2.2.2.2.2.2.2.2.2.2.2.1, x.2.2.2.2.2.2.2.2.2.2.2.2.1, x.2.2.2.2.2.2.2.2.2.2.2.2.2.1, x.2.2.2.2.2.2.2.2.2.2.2.2.2.2.1, x.2.2.2.2.2.2.2.2.2.2.2.2.2.2.2.1, x.2.2.2.2.2.2.2.2.2.2.2.2.2.2.2.2.1, x.2.2.2.2.2.2.2.2.2.2.2.2.2.2.2.2.2.1, x.2.2.2.2.2.2.2.2.2.2.2.2.2.2.2.2.2.2, ()), ())))
def L122_0q : LoopSum := ⟨I122_0q, O122_0q, Z122_0q, fun k d => c122_0q (pair_next_L1 k k) d, e122_0q⟩
def I122_1q : Spec := ⟨[(3, .c (.lit (.ptr 1001000 0))), (6, .c (.lit (.ptr 1001001 0))), (8, .c (.lit (.osl 1001002 none))), (18, .c (.lit (.osl 1001002 none))), (19, .c (.int .i64)), (20, .c (.int .i64))], [.box true [.dat true y3q, .dat true (.sl (.int .i64)), .dat true (.int .i64), .dat true (.sl (.int .i64))], .box true [.int .i64, .int .i64, .int .i64, .int .i64, .int .i64, .int .i64, .int .i64, .int .i64, .int .i64, .int .i64, .int .i64, .int .i64, .int .i64, .int .i64, .lit .nsl, .lit .nsl, .lit .nsl, .lit .nsl], .arr true y7q], []⟩
def X0_122_1q : Spec := ⟨[(6, .c (.lit (.ptr 1001000 0)))], [.box true [.int .i64, .int .i64, .int .i64, .int .i64, .int .i64, .int .i64, .int .i64, .int .i64, .int .i64, .int .i64, .int .i64, .int .i64, .int .i64, .int .i64, .lit .nsl, .lit .nsl, .lit .nsl, .lit .nsl]], []⟩
def X1_122_1q : Spec := ⟨[(6, .c (.lit (.ptr 1001000 0))), (7, .c (.bool))], [.box true [.int .i64, .int .i64, .int .i64, .int .i64, .int .i64, .int .i64, .int .i64, .int .i64, .int .i64, .int .i64, .int .i64, .int .i64, .int .i64, .int .i64, .dat true y3q, .dat true (.sl (.int .i64)), .dat true (.int .i64), .dat true (.sl (.int .i64))]], []⟩
def O122_1q : List (Ex × Spec) := [(.exit 0, X0_122_1q), (.ret, X1_122_1q)]
abbrev Z122_1q : Type := (Int × Int × Int × Int × Int × Int × Int × Int × Int × Int × Int × Int × Int × Int) ⊕ (Bool × Int × Int × Int × Int × Int × Int × Int × Int × Int × Int × Int × Int × Int × Int × (List K2q) × (List (List Int)) × (List Int) × (List (List Int)))
def c122_1q (f : Int → Int → List K2q → List (List Int) → List Int → List (List Int) → Int → Int → Int → Int → Int → Int → Int → Int → Int → Int → Int → Int → Int → Int → List K1q → Option Z122_1q) (d : I122_1q.den) : Option Z122_1q := f d.1.2.2.2.2.1.1 d.1.2.2.2.2.2.1.1 d.2.1.1 d.2.1.2.1 d.2.1.2.2.1 d.2.1.2.2.2.1 d.2.2.1.1 d.2.2.1.2.1 d.2.2.1.2.2.1 d.2.2.1.2.2.2.1 d.2.2.1.2.2.2.2.1 d.2.2.1.2.2.2.2.2.1 d.2.2.1.2.2.2.2.2.2.1 d.2.2.1.2.2.2.2.2.2.2.1 d.2.2.1.2.2.2.2.2.2.2.2.1 d.2.2.1.2.2.2.2.2.2.2.2.2.1 d.2.2.1.2.2.2.2.2.2.2.2.2.2.1 d.2.2.1.2.2.2.2.2.2.2.2.2.2.2.1 d.2.2.1.2.2.2.2.2.2.2.2.2.2.2.2.1 d.2.2.1.2.2.2.2.2.2.2.2.2.2.2.2.2.1 d.2.2.2.1
def T122_1q : OutD O122_1q → Z122_1q
 | .inl d => .inl (d.2.1.1, d.2.1.2.1, d.2.1.2.2.1, d.2.1.2.2.2.1, d.2.1.2.2.2.2.1, d.2.1.2.2.2.2.2.1, d.2.1.2.2.2.2.2.2.1, d.2.1.2.2.2.2.2.2.2.1, d.2.1.2.2.2.2.2.2.2.2.1, d.2.1.2.2.2.2.2.2.2.2.2.1, d.2.1.2.2.2.2.2.2.2.2.2.2.1, d.2.1.2.2.2.2.2.2.2.2.2.2.2.1, d.2.1.2.2.2.2.2.2.2.2.2.2.2.2.1, d.2.1.2.2.2.2.2.2.2.2.2.2.2.2.2.1)
 | .inr d => .inr (d.1.2.1.1, d.2.1.1, d.2.1.2.1, d.2.1.2.2.1, d.2.1.2.2.2.1, d.2.1.2.2.2.2.1, d.2.1.2.2.2.2.2.1, d.2.1.2.2.2.2.2.2.1, d.2.1.2.2.2.2.2.2.2.1, d.2.1.2.2.2.2.2.2.2.2.1, d.2.1.2.2.2.2.2.2.2.2.2.1, d.2.1.2.2.2.2.2.2.2.2.2.2.1, d.2.1.2.2.2.2.2.2.2.2.2.2.2.1, d.2.1.2.2.2.2.2.2.2.2.2.2.2.2.1, d.2.1.2.2.2.2.2.2.2.2.2.2.2.2.2.1, d.2.1.2.2.2.2.2.2.2.2.2.2.2.2.2.2.1, d.2.1.2.2.2.2.2.2.2.2.2.2.2.2.2.2.2.1, d.2.1.2.2.2.2.2.2.2.2.2.2.2.2.2.2.2.2.1, d.2.1.2.2.2.2.2.2.2.2.2.2.2.2.2.2.2.2.2.1)
def e122_1q (base : Nat) (x : Z122_1q) (R : Type) (K : Ex → St → Option R) : Option R := match x with
 | .inl x => K (.exit 0) (stOf base X0_122_1q (((), ()), ((x.1, x.2.1, x.2.2.1, x.2.2.2.1, x.2.2.2.2.1, x.2.2.2.2.2.1, x.2.2.2.2.2.2.1, x.2.2.2.2.2.2.2.1, x.2.2.2.2.2.2.2.2.1, x.2.2.2.2.2.2.2.2.2.1, x.2.2.2.2.2.2.2.2.2.2.1, x.2.2.2.2.2.2.2.2.2.2.2.1, x.2.2.2.2.2.2.2.2.2.2.2.2.1, x.2.2.2.2.2.2.2.2.2.2.2.2.2, ()), ())))
 | .inr x => K .ret (stOf base X1_122_1q (((), (x.1, ()), ()), ((x.2.1, x.2.2.1, x.2.2.2.1, x.2.2.2.2.1, x.2.2.2.2.2.1, x.2.2.2.2.2.2.1, x.2.2.2.2.2.2.2.1, x.2.2.2.2.2.2.2.2.1, x.2.2.2.2.2.2.2.2.2.1, x.2.2.2.2.2.2.2.2.2.2.1, x.2.2.2.2.2.2.2.2.2.2.2.1, x.2.2.2.2.2.2.2.2.2.2.2.2.1, x.2.2.2.2.2.2.2.2.2.2.2.2.2.1, x.2.2.2.2.2.2.2.2.2.2.2.2.2.2.1, x.2.2.2.2.2.2.2.2.2.2.2.2.2.2.2.1, x.2.2.2.2.2.2.2.2.2.2.2.2.2.2.2.2.1, x.2.2.2.2.2.2.2.2.2.2.2.2.2.2.2.2.2.1, x.2.2.2.2.2.2.2.2.2.2.2.2.2.2.2.2.2.2, ()), ())))
def L122_1q : LoopSum := ⟨I122_1q, O122_1q, Z122_1q, fun k d => c122_1q (pair_next_L0 k k) d, e122_1q⟩
def A122q : Notes := ⟨[], [(6, L122_0q), (3, L122_1q)]⟩
theorem Eo122q : EnvOK E122q := ⟨eqOK_none, sumsOf_ok (List.forall_mem_cons.2 ⟨Ro115q, List.forall_mem_cons.2 ⟨Ro119q, List.forall_mem_cons.2 ⟨Ro72q, List.forall_mem_nil _⟩⟩⟩)⟩
theorem El122q : SumsLocal E122q.sums := sumsOf_local (List.forall_mem_cons.2 ⟨Rl115q, List.forall_mem_cons.2 ⟨Rl119q, List.forall_mem_cons.2 ⟨Rl72q, List.forall_mem_nil _⟩⟩⟩)
theorem st122_0q (k : Nat) (rec : Int → Int → Int → Int → List K2q → List (List Int) → List Int → List (List Int) → Int → Int → Int → Int → Int → Int → Int → Int → Int → Int → Int → Int → Int → Int → List K1q → Int → Int → Int → Int → Int → Int → Int → Option Z122_0q) (d : I122_0q.den) : c122_0q (pair_next_L1b k rec) d = evC E122q A122q k 1000 0 74 (loopAt (loopAt (bodyOf Proofs.Try.f127) 0) 0) (stOf (1000 + loopBase) I122_0q d) (roundK 1000 I122_0q O122_0q T122_0q (c122_0q rec)) := by
  obtain ⟨⟨_, _, _, _, _, ⟨_, _⟩, ⟨_, _⟩, _, ⟨_, _⟩, ⟨_, _⟩, _⟩, ⟨⟨_, _, _, _, _⟩, ⟨_, _, _, _, _, _, _, _, _, _, _, _, _, _, _⟩, _, ⟨_, _, _, _, _, _, _, _⟩, _⟩⟩ := d
  kernel_rfl
theorem lk122_0q : LoopOK Proofs.Try.prog 1000 0 74 (loopAt (loopAt (bodyOf Proofs.Try.f127) 0) 0) L122_0q :=
  loop_sound (A := A122q) (inS := I122_0q) (outs := O122_0q) Eo122q El122q mixed_orders (loopsOK_none (by kernel_rfl)) T122_0q e122_0q (by intro o R K; rcases o with o | o <;> rfl) (fun k n d => c122_0q (pair_next_L1 k n) d) (fun _ _ => rfl) (fun k n d => st122_0q k (pair_next_L1 k n) d)
theorem st122_1q (k : Nat) (rec : Int → Int → List K2q → List (List Int) → List Int → List (List Int) → Int → Int → Int → Int → Int → Int → Int → Int → Int → Int → Int → Int → Int → Int → List K1q → Option Z122_1q) (d : I122_1q.den) : c122_1q (pair_next_L0b k rec) d = evC E122q A122q k 1000 0 74 (loopAt (bodyOf Proofs.Try.f127) 0) (stOf (1000 + loopBase) I122_1q d) (roundK 1000 I122_1q O122_1q T122_1q (c122_1q rec)) := by
  obtain ⟨⟨_, _, _, _, ⟨_, _⟩, ⟨_, _⟩, _⟩, ⟨⟨_, _, _, _, _⟩, ⟨_, _, _, _, _, _, _, _, _, _, _, _, _, _, _⟩, _, _⟩⟩ := d
  kernel_rfl
theorem lk122_1q : LoopOK Proofs.Try.prog 1000 0 74 (loopAt (bodyOf Proofs.Try.f127) 0) L122_1q :=
  loop_sound (A := A122q) (inS := I122_1q) (outs := O122_1q) Eo122q El122q mixed_orders (loopsOK_of (n := 1) (by kernel_rfl) fun i hi => match i, hi with | 0, _ => ⟨L122_0q, by kernel_rfl, lk122_0q⟩ | i + 1, hi => absurd hi (by omega)) T122_1q e122_1q (by intro o R K; rcases o with o | o <;> rfl) (fun k n d => c122_1q (pair_next_L0 k n) d) (fun _ _ => rfl) (fun k n d => st122_1q k (pair_next_L0 k n) d)
def as122q : List AS := [.agg [.dat true y3q, .dat true (.sl (.int .i64)), .dat true (.int .i64), .dat true (.sl (.int .i64))], .c (.dat true y7q), .c (.int .i64)]
def rs122q : RS := .tup [(true, [.int .i64, .int .i64, .int .i64, .int .i64, .int .i64, .int .i64, .int .i64, .int .i64, .int .i64, .int .i64, .int .i64, .int .i64, .int .i64, .int .i64, .fro y3q, .fro (.sl (.int .i64)), .fro (.int .i64), .fro (.sl (.int .i64))]), (false, [.bool])]
def pk122q : Int × Int × Int × Int × Int × Int × Int × Int × Int × Int × Int × Int × Int × Int × (List K2q) × (List (List Int)) × (List Int) × (List (List Int)) × Bool → RL rs122q.cells := fun x => (x.1, x.2.1, x.2.2.1, x.2.2.2.1, x.2.2.2.2.1, x.2.2.2.2.2.1, x.2.2.2.2.2.2.1, x.2.2.2.2.2.2.2.1, x.2.2.2.2.2.2.2.2.1, x.2.2.2.2.2.2.2.2.2.1, x.2.2.2.2.2.2.2.2.2.2.1, x.2.2.2.2.2.2.2.2.2.2.2.1, x.2.2.2.2.2.2.2.2.2.2.2.2.1, x.2.2.2.2.2.2.2.2.2.2.2.2.2.1, x.2.2.2.2.2.2.2.2.2.2.2.2.2.2.1, x.2.2.2.2.2.2.2.2.2.2.2.2.2.2.2.1, x.2.2.2.2.2.2.2.2.2.2.2.2.2.2.2.2.1, x.2.2.2.2.2.2.2.2.2.2.2.2.2.2.2.2.2.1, x.2.2.2.2.2.2.2.2.2.2.2.2.2.2.2.2.2.2, ())
def up122q : RL rs122q.cells → Int × Int × Int × Int × Int × Int × Int × Int × Int × Int × Int × Int × Int × Int × (List K2q) × (List (List Int)) × (List Int) × (List (List Int)) × Bool := fun d => (d.1, d.2.1, d.2.2.1, d.2.2.2.1, d.2.2.2.2.1, d.2.2.2.2.2.1, d.2.2.2.2.2.2.1, d.2.2.2.2.2.2.2.1, d.2.2.2.2.2.2.2.2.1, d.2.2.2.2.2.2.2.2.2.1, d.2.2.2.2.2.2.2.2.2.2.1, d.2.2.2.2.2.2.2.2.2.2.2.1, d.2.2.2.2.2.2.2.2.2.2.2.2.1, d.2.2.2.2.2.2.2.2.2.2.2.2.2.1, d.2.2.2.2.2.2.2.2.2.2.2.2.2.2.1, d.2.2.2.2.2.2.2.2.2.2.2.2.2.2.2.1, d.2.2.2.2.2.2.2.2.2.2.2.2.2.2.2.2.1, d.2.2.2.2.2.2.2.2.2.2.2.2.2.2.2.2.2.1, d.2.2.2.2.2.2.2.2.2.2.2.2.2.2.2.2.2.2.1)
def R122q : Nat × Entry := (127, fun k nm args h => entry as122q rs122q (fun d => pair_next k d.1 d.2.1 d.2.2.1 d.2.2.2.1 d.2.2.2.2.1 d.2.2.2.2.2.1) pk122q nm args h)
theorem ev122q (k : Nat) (d : AD as122q) : evF E122q A122q k 1000 0 Proofs.Try.f127 (absArgs as122q d).1 (absArgs as122q d).2 (outM rs122q up122q) = pair_next k d.1 d.2.1 d.2.2.1 d.2.2.2.1 d.2.2.2.2.1 d.2.2.2.2.2.1 := by
  obtain ⟨_, _, _, _, _, _, _⟩ := d
  kernel_rfl
theorem Ro122q : EntryOK Proofs.Try.prog R122q := fun k _ _ _ _ _ hy =>
  entry_sound (unpack := up122q) (A := A122q) (k := k) (pre := 1000) (na := 0) (E := E122q) Eo122q El122q mixed_orders (f := 127) (fn := Proofs.Try.f127) (by kernel_rfl) (body_loops (loopsOK_of (n := 1) (by kernel_rfl) fun i hi => match i, hi with | 0, _ => ⟨L122_1q, by kernel_rfl, lk122_1q⟩ | i + 1, hi => absurd hi (by omega))) (enters (fn := Proofs.Try.f127) (by kernel_rfl) (by kernel_rfl) (by kernel_rfl)) (fun _ => rfl) (ev122q k) hy
theorem Rl122q : EntryLocal R122q.2 := entry_local (S := fun k (d : AD as122q) => pair_next k d.1 d.2.1 d.2.2.1 d.2.2.2.1 d.2.2.2.2.1 d.2.2.2.2.2.1)

/-! ### giro/pair.Run -/
noncomputable def E123q : Env := ⟨Proofs.Try.prog, fun _ => false, sumsOf [R122q, R78q]⟩
def I123_0q : Spec := ⟨[(2, .c (.int .i64)), (6, .c (.lit (.ptr 1001000 0))), (7, .c (.dat true y7q)), (8, .c (.lit (.osl 1001001 none))), (33, .c (.lit (.osl 1001002 none))), (34, .c (.int .i64)), (35, .c (.int .i64))], [.box true [.dat true y3q, .dat true (.sl (.int .i64)), .dat true (.int .i64), .dat true (.sl (.int .i64))], .arr true y7q, .arr true y7q], [(8, none, y7q, false)]⟩
def X0_123_0q : Spec := ⟨[(2, .c (.int .i64)), (6, .c (.lit (.ptr 1001000 0))), (7, .c (.dat true y7q)), (8, .c (.lit (.osl 1001001 none)))], [.box true [.dat true y3q, .dat true (.sl (.int .i64)), .dat true (.int .i64), .dat true (.sl (.int .i64))], .arr true y7q], []⟩
def O123_0q : List (Ex × Spec) := [(.exit 2, X0_123_0q)]
abbrev Z123_0q : Type := Int × (List K1q) × (List K2q) × (List (List Int)) × (List Int) × (List (List Int)) × (List K1q)
def c123_0q (f : Int → List K1q → Int → Int → List K2q → List (List Int) → List Int → List (List Int) → List K1q → List K1q → Option Z123_0q) (d : I123_0q.den) : Option Z123_0q := f d.1.1.1 d.1.2.2.1.1 d.1.2.2.2.2.2.1.1 d.1.2.2.2.2.2.2.1.1 d.2.1.1 d.2.1.2.1 d.2.1.2.2.1 d.2.1.2.2.2.1 d.2.2.1 d.2.2.2.1
def T123_0q : OutD O123_0q → Z123_0q := fun d => (d.1.1.1, d.1.2.2.1.1, d.2.1.1, d.2.1.2.1, d.2.1.2.2.1, d.2.1.2.2.2.1, d.2.2.1)
def e123_0q (base : Nat) (x : Z123_0q) (R : Type) (K : Ex → St → Option R) : Option R := K (.exit 2) (stOf base X0_123_0q (((x.1, ()), (), (x.2.1, ()), (), ()), ((x.2.2.1, x.2.2.2.1, x.2.2.2.2.1, x.2.2.2.2.2.1, ()), x.2.2.2.2.2.2, ())))
def L123_0q : LoopSum := ⟨I123_0q, O123_0q, Z123_0q, fun k d => c123_0q (pair_Run_L1 k k) d, e123_0q⟩
def I123_1q : Spec := ⟨[(2, .c (.int .i64)), (6, .c (.lit (.ptr 1001000 0))), (7, .c (.dat true y7q)), (8, .c (.lit (.osl 1001001 none)))], [.box true [.dat true y3q, .dat true (.sl (.int .i64)), .dat true (.int .i64), .dat true (.sl (.int .i64))], .arr true y7q], [(8, none, y7q, false)]⟩
def X0_123_1q : Spec := ⟨[(6, .c (.lit (.ptr 1001000 0))), (7, .c (.dat true y7q)), (8, .c (.lit (.osl 1001001 none)))], [.box true [.dat true y3q, .dat true (.sl (.int .i64)), .dat true (.int .i64), .dat true (.sl (.int .i64))], .arr true y7q], []⟩
def O123_1q : List (Ex × Spec) := [(.ret, X0_123_1q)]
abbrev Z123_1q : Type := (List K1q) × (List K2q) × (List (List Int)) × (List Int) × (List (List Int)) × (List K1q)
def c123_1q (f : Int → List K1q → List K2q → List (List Int) → List Int → List (List Int) → List K1q → Option Z123_1q) (d : I123_1q.den) : Option Z123_1q := f d.1.1.1 d.1.2.2.1.1 d.2.1.1 d.2.1.2.1 d.2.1.2.2.1 d.2.1.2.2.2.1 d.2.2.1
def T123_1q : OutD O123_1q → Z123_1q := fun d => (d.1.2.1.1, d.2.1.1, d.2.1.2.1, d.2.1.2.2.1, d.2.1.2.2.2.1, d.2.2.1)
def e123_1q (base : Nat) (x : Z123_1q) (R : Type) (K : Ex → St → Option R) : Option R := K .ret (stOf base X0_123_1q (((), (x.1, ()), (), ()), ((x.2.1, x.2.2.1, x.2.2.2.1, x.2.2.2.2.1, ()), x.2.2.2.2.2, ())))
def L123_1q : LoopSum := ⟨I123_1q, O123_1q, Z123_1q, fun k d => c123_1q (pair_Run_L0 k k) d, e123_1q⟩
def A123q : Notes := ⟨[], [(7, L123_0q), (2, L123_1q)]⟩
theorem Eo123q : EnvOK E123q := ⟨eqOK_none, sumsOf_ok (List.forall_mem_cons.2 ⟨Ro122q, List.forall_mem_cons.2 ⟨Ro78q, List.forall_mem_nil _⟩⟩)⟩
theorem El123q : SumsLocal E123q.sums := sumsOf_local (List.forall_mem_cons.2 ⟨Rl122q, List.forall_mem_cons.2 ⟨Rl78q, List.forall_mem_nil _⟩⟩)
theorem st123_0q (k : Nat) (rec : Int → List K1q → Int → Int → List K2q → List (List Int) → List Int → List (List Int) → List K1q → List K1q → Option Z123_0q) (d : I123_0q.den) : c123_0q (pair_Run_L1b k rec) d = evC E123q A123q k 1000 0 52 (loopAt (loopAt (bodyOf Proofs.Try.f106) 0) 0) (stOf (1000 + loopBase) I123_0q d) (roundK 1000 I123_0q O123_0q T123_0q (c123_0q rec)) := by
  obtain ⟨⟨⟨_, _⟩, _, ⟨_, _⟩, _, _, ⟨_, _⟩, ⟨_, _⟩, _⟩, ⟨⟨_, _, _, _, _⟩, _, _, _⟩⟩ := d
  kernel_rfl
theorem lk123_0q : LoopOK Proofs.Try.prog 1000 0 52 (loopAt (loopAt (bodyOf Proofs.Try.f106) 0) 0) L123_0q :=
  loop_sound (A := A123q) (inS := I123_0q) (outs := O123_0q) Eo123q El123q mixed_orders (loopsOK_none (by kernel_rfl)) T123_0q e123_0q (fun _ _ _ => rfl) (fun k n d => c123_0q (pair_Run_L1 k n) d) (fun _ _ => rfl) (fun k n d => st123_0q k (pair_Run_L1 k n) d)
theorem st123_1q (k : Nat) (rec : Int → List K1q → List K2q → List (List Int) → List Int → List (List Int) → List K1q → Option Z123_1q) (d : I123_1q.den) : c123_1q (pair_Run_L0b k rec) d = evC E123q A123q k 1000 0 52 (loopAt (bodyOf Proofs.Try.f106) 0) (stOf (1000 + loopBase) I123_1q d) (roundK 1000 I123_1q O123_1q T123_1q (c123_1q rec)) := by
  obtain ⟨⟨⟨_, _⟩, _, ⟨_, _⟩, _, _⟩, ⟨⟨_, _, _, _, _⟩, _, _⟩⟩ := d
  kernel_rfl
theorem lk123_1q : LoopOK Proofs.Try.prog 1000 0 52 (loopAt (bodyOf Proofs.Try.f106) 0) L123_1q :=
  loop_sound (A := A123q) (inS := I123_1q) (outs := O123_1q) Eo123q El123q mixed_orders (loopsOK_of (n := 1) (by kernel_rfl) fun i hi => match i, hi with | 0, _ => ⟨L123_0q, by kernel_rfl, lk123_0q⟩ | i + 1, hi => absurd hi (by omega)) T123_1q e123_1q (fun _ _ _ => rfl) (fun k n d => c123_1q (pair_Run_L0 k n) d) (fun _ _ => rfl) (fun k n d => st123_1q k (pair_Run_L0 k n) d)
def as123q : List AS := [.agg [.dat true y3q, .dat true (.sl (.int .i64)), .dat true (.int .i64), .dat true (.sl (.int .i64))], .c (.dat true y7q), .c (.int .i64)]
def rs123q : RS := .tup [(true, [.fro y3q, .fro (.sl (.int .i64)), .fro (.int .i64), .fro (.sl (.int .i64))]), (false, [.fro y7q]), (false, [.own y7q])]
def pk123q : (List K2q) × (List (List Int)) × (List Int) × (List (List Int)) × (List K1q) × (List K1q) → RL rs123q.cells := fun x => (x.1, x.2.1, x.2.2.1, x.2.2.2.1, x.2.2.2.2.1, x.2.2.2.2.2, ())
def up123q : RL rs123q.cells → (List K2q) × (List (List Int)) × (List Int) × (List (List Int)) × (List K1q) × (List K1q) := fun d => (d.1, d.2.1, d.2.2.1, d.2.2.2.1, d.2.2.2.2.1, d.2.2.2.2.2.1)
def R123q : Nat × Entry := (106, fun k nm args h => entry as123q rs123q (fun d => pair_Run k d.1 d.2.1 d.2.2.1 d.2.2.2.1 d.2.2.2.2.1 d.2.2.2.2.2.1) pk123q nm args h)
theorem ev123q (k : Nat) (d : AD as123q) : evF E123q A123q k 1000 0 Proofs.Try.f106 (absArgs as123q d).1 (absArgs as123q d).2 (outM rs123q up123q) = pair_Run k d.1 d.2.1 d.2.2.1 d.2.2.2.1 d.2.2.2.2.1 d.2.2.2.2.2.1 := by
  obtain ⟨_, _, _, _, _, _, _⟩ := d
  kernel_rfl
theorem Ro123q : EntryOK Proofs.Try.prog R123q := fun k _ _ _ _ _ hy =>
  entry_sound (unpack := up123q) (A := A123q) (k := k) (pre := 1000) (na := 0) (E := E123q) Eo123q El123q mixed_orders (f := 106) (fn := Proofs.Try.f106) (by kernel_rfl) (body_loops (loopsOK_of (n := 1) (by kernel_rfl) fun i hi => match i, hi with | 0, _ => ⟨L123_1q, by kernel_rfl, lk123_1q⟩ | i + 1, hi => absurd hi (by omega))) (enters (fn := Proofs.Try.f106) (by kernel_rfl) (by kernel_rfl) (by kernel_rfl)) (fun _ => rfl) (ev123q k) hy
theorem Rl123q : EntryLocal R123q.2 := entry_local (S := fun k (d : AD as123q) => pair_Run k d.1 d.2.1 d.2.2.1 d.2.2.2.1 d.2.2.2.2.1 d.2.2.2.2.2.1)

/-! ### giro/settle.some -/
noncomputable def E124q : Env := ⟨Proofs.Try.prog, fun _ => false, sumsOf [R121q, R123q]⟩
def I124_0q : Spec := ⟨[(2, .c (.int .i64)), (6, .c (.lit (.ptr 1001000 0))), (7, .c (.dat true y7q)), (8, .c (.lit (.osl 1001001 none)))], [.box true [.dat true y3q, .dat true (.sl (.int .i64)), .dat true (.int .i64), .dat true (.sl (.int .i64))], .arr true y7q], [(8, none, y7q, false)]⟩
def X0_124_0q : Spec := ⟨[(6, .c (.lit (.ptr 1001000 0))), (7, .c (.dat true y7q)), (8, .c (.lit (.osl 1001001 none)))], [.box true [.dat true y3q, .dat true (.sl (.int .i64)), .dat true (.int .i64), .dat true (.sl (.int .i64))], .arr true y7q], []⟩
def O124_0q : List (Ex × Spec) := [(.ret, X0_124_0q)]
abbrev Z124_0q : Type := (List K1q) × (List K2q) × (List (List Int)) × (List Int) × (List (List Int)) × (List K1q)
def c124_0q (f : Int → List K1q → List K2q → List (List Int) → List Int → List (List Int) → List K1q → Option Z124_0q) (d : I124_0q.den) : Option Z124_0q := f d.1.1.1 d.1.2.2.1.1 d.2.1.1 d.2.1.2.1 d.2.1.2.2.1 d.2.1.2.2.2.1 d.2.2.1
def T124_0q : OutD O124_0q → Z124_0q := fun d => (d.1.2.1.1, d.2.1.1, d.2.1.2.1, d.2.1.2.2.1, d.2.1.2.2.2.1, d.2.2.1)
def e124_0q (base : Nat) (x : Z124_0q) (R : Type) (K : Ex → St → Option R) : Option R := K .ret (stOf base X0_124_0q (((), (x.1, ()), (), ()), ((x.2.1, x.2.2.1, x.2.2.2.1, x.2.2.2.2.1, ()), x.2.2.2.2.2, ())))
def L124_0q : LoopSum := ⟨I124_0q, O124_0q, Z124_0q, fun k d => c124_0q (settle_some_L0 k k) d, e124_0q⟩
def A124q : Notes := ⟨[], [(2, L124_0q)]⟩
theorem Eo124q : EnvOK E124q := ⟨eqOK_none, sumsOf_ok (List.forall_mem_cons.2 ⟨Ro121q, List.forall_mem_cons.2 ⟨Ro123q, List.forall_mem_nil _⟩⟩)⟩
theorem El124q : SumsLocal E124q.sums := sumsOf_local (List.forall_mem_cons.2 ⟨Rl121q, List.forall_mem_cons.2 ⟨Rl123q, List.forall_mem_nil _⟩⟩)
theorem st124_0q (k : Nat) (rec : Int → List K1q → List K2q → List (List Int) → List Int → List (List Int) → List K1q → Option Z124_0q) (d : I124_0q.den) : c124_0q (settle_some_L0b k rec) d = evC E124q A124q k 1000 0 40 (loopAt (bodyOf Proofs.Try.f68) 0) (stOf (1000 + loopBase) I124_0q d) (roundK 1000 I124_0q O124_0q T124_0q (c124_0q rec)) := by
  obtain ⟨⟨⟨_, _⟩, _, ⟨_, _⟩, _, _⟩, ⟨⟨_, _, _, _, _⟩, _, _⟩⟩ := d
  kernel_rfl
theorem lk124_0q : LoopOK Proofs.Try.prog 1000 0 40 (loopAt (bodyOf Proofs.Try.f68) 0) L124_0q :=
  loop_sound (A := A124q) (inS := I124_0q) (outs := O124_0q) Eo124q El124q mixed_orders (loopsOK_none (by kernel_rfl)) T124_0q e124_0q (fun _ _ _ => rfl) (fun k n d => c124_0q (settle_some_L0 k n) d) (fun _ _ => rfl) (fun k n d => st124_0q k (settle_some_L0 k n) d)
def as124q : List AS := [.agg [.dat true y3q, .dat true (.sl (.int .i64)), .dat true (.int .i64), .dat true (.sl (.int .i64))], .c (.dat true y7q), .c (.int .i64)]
def rs124q : RS := .tup [(true, [.fro y3q, .fro (.sl (.int .i64)), .fro (.int .i64), .fro (.sl (.int .i64))]), (false, [.fro y7q]), (false, [.own y7q])]
def pk124q : (List K2q) × (List (List Int)) × (List Int) × (List (List Int)) × (List K1q) × (List K1q) → RL rs124q.cells := fun x => (x.1, x.2.1, x.2.2.1, x.2.2.2.1, x.2.2.2.2.1, x.2.2.2.2.2, ())
def up124q : RL rs124q.cells → (List K2q) × (List (List Int)) × (List Int) × (List (List Int)) × (List K1q) × (List K1q) := fun d => (d.1, d.2.1, d.2.2.1, d.2.2.2.1, d.2.2.2.2.1, d.2.2.2.2.2.1)
def R124q : Nat × Entry := (68, fun k nm args h => entry as124q rs124q (fun d => settle_some k d.1 d.2.1 d.2.2.1 d.2.2.2.1 d.2.2.2.2.1 d.2.2.2.2.2.1) pk124q nm args h)
theorem ev124q (k : Nat) (d : AD as124q) : evF E124q A124q k 1000 0 Proofs.Try.f68 (absArgs as124q d).1 (absArgs as124q d).2 (outM rs124q up124q) = settle_some k d.1 d.2.1 d.2.2.1 d.2.2.2.1 d.2.2.2.2.1 d.2.2.2.2.2.1 := by
  obtain ⟨_, _, _, _, _, _, _⟩ := d
  kernel_rfl
theorem Ro124q : EntryOK Proofs.Try.prog R124q := fun k _ _ _ _ _ hy =>
  entry_sound (unpack := up124q) (A := A124q) (k := k) (pre := 1000) (na := 0) (E := E124q) Eo124q El124q mixed_orders (f := 68) (fn := Proofs.Try.f68) (by kernel_rfl) (body_loops (loopsOK_of (n := 1) (by kernel_rfl) fun i hi => match i, hi with | 0, _ => ⟨L124_0q, by kernel_rfl, lk124_0q⟩ | i + 1, hi => absurd hi (by omega))) (enters (fn := Proofs.Try.f68) (by kernel_rfl) (by kernel_rfl) (by kernel_rfl)) (fun _ => rfl) (ev124q k) hy
theorem Rl124q : EntryLocal R124q.2 := entry_local (S := fun k (d : AD as124q) => settle_some k d.1 d.2.1 d.2.2.1 d.2.2.2.1 d.2.2.2.2.1 d.2.2.2.2.2.1)

/-! ### giro/settle.Run -/
noncomputable def E125q : Env := ⟨Proofs.Try.prog, fun _ => false, sumsOf [R124q, R79q]⟩
def A125q : Notes := ⟨[], []⟩
theorem Eo125q : EnvOK E125q := ⟨eqOK_none, sumsOf_ok (List.forall_mem_cons.2 ⟨Ro124q, List.forall_mem_cons.2 ⟨Ro79q, List.forall_mem_nil _⟩⟩)⟩
theorem El125q : SumsLocal E125q.sums := sumsOf_local (List.forall_mem_cons.2 ⟨Rl124q, List.forall_mem_cons.2 ⟨Rl79q, List.forall_mem_nil _⟩⟩)
def as125q : List AS := [.agg [.dat true y3q, .dat true (.sl (.int .i64)), .dat true (.int .i64), .dat true (.sl (.int .i64))], .c (.dat true y7q), .c (.int .i64), .c (.bool)]
def rs125q : RS := .tup [(true, [.fro y3q, .fro (.sl (.int .i64)), .fro (.int .i64), .fro (.sl (.int .i64))]), (false, [.fro y7q]), (false, [.own y7q])]
def pk125q : (List K2q) × (List (List Int)) × (List Int) × (List (List Int)) × (List K1q) × (List K1q) → RL rs125q.cells := fun x => (x.1, x.2.1, x.2.2.1, x.2.2.2.1, x.2.2.2.2.1, x.2.2.2.2.2, ())
def up125q : RL rs125q.cells → (List K2q) × (List (List Int)) × (List Int) × (List (List Int)) × (List K1q) × (List K1q) := fun d => (d.1, d.2.1, d.2.2.1, d.2.2.2.1, d.2.2.2.2.1, d.2.2.2.2.2.1)
def R125q : Nat × Entry := (34, fun k nm args h => entry as125q rs125q (fun d => settle_Run k d.1 d.2.1 d.2.2.1 d.2.2.2.1 d.2.2.2.2.1 d.2.2.2.2.2.1 d.2.2.2.2.2.2.1) pk125q nm args h)
theorem ev125q (k : Nat) (d : AD as125q) : evF E125q A125q k 1000 0 Proofs.Try.f34 (absArgs as125q d).1 (absArgs as125q d).2 (outM rs125q up125q) = settle_Run k d.1 d.2.1 d.2.2.1 d.2.2.2.1 d.2.2.2.2.1 d.2.2.2.2.2.1 d.2.2.2.2.2.2.1 := by
  obtain ⟨_, _, _, _, _, _, _, _⟩ := d
  kernel_rfl
theorem Ro125q : EntryOK Proofs.Try.prog R125q := fun k _ _ _ _ _ hy =>
  entry_sound (unpack := up125q) (A := A125q) (k := k) (pre := 1000) (na := 0) (E := E125q) Eo125q El125q mixed_orders (f := 34) (fn := Proofs.Try.f34) (by kernel_rfl) (body_loops (loopsOK_none (by kernel_rfl))) (enters (fn := Proofs.Try.f34) (by kernel_rfl) (by kernel_rfl) (by kernel_rfl)) (fun _ => rfl) (ev125q k) hy
theorem Rl125q : EntryLocal R125q.2 := entry_local (S := fun k (d : AD as125q) => settle_Run k d.1 d.2.1 d.2.2.1 d.2.2.2.1 d.2.2.2.2.1 d.2.2.2.2.2.1 d.2.2.2.2.2.2.1)

/-! ### giro/giroref14.May -/
noncomputable def E126q : Env := ⟨Proofs.Try.prog, fun t => [51].any (Nat.beq t), sumsOf [R35q, R36q]⟩
def I126_0q : Spec := ⟨[(5, .c (.lit (.osl 1001000 none))), (6, .c (.lit (.osl 1001001 none))), (7, .c (.int .i64)), (8, .c (.lit (.osl 1001002 none))), (9, .c (.bool)), (10, .c (.int .i64))], [.arr true y7q, .arr true y7q, .arr true y7q], []⟩
def X0_126_0q : Spec := ⟨[(5, .c (.lit (.osl 1001000 none))), (6, .c (.lit (.osl 1001001 none))), (7, .c (.int .i64)), (8, .c (.lit (.osl 1001002 none))), (9, .c (.bool))], [.arr true y7q, .arr true y7q, .arr true y7q], []⟩
def O126_0q : List (Ex × Spec) := [(.exit 2, X0_126_0q)]
abbrev Z126_0q : Type := Int × Bool × (List K1q) × (List K1q) × (List K1q)
def c126_0q (f : Int → Bool → Int → List K1q → List K1q → List K1q → Option Z126_0q) (d : I126_0q.den) : Option Z126_0q := f d.1.2.2.1.1 d.1.2.2.2.2.1.1 d.1.2.2.2.2.2.1.1 d.2.1 d.2.2.1 d.2.2.2.1
def T126_0q : OutD O126_0q → Z126_0q := fun d => (d.1.2.2.1.1, d.1.2.2.2.2.1.1, d.2.1, d.2.2.1, d.2.2.2.1)
def e126_0q (base : Nat) (x : Z126_0q) (R : Type) (K : Ex → St → Option R) : Option R := K (.exit 2) (stOf base X0_126_0q (((), (), (x.1, ()), (), (x.2.1, ()), ()), (x.2.2.1, x.2.2.2.1, x.2.2.2.2, ())))
def L126_0q : LoopSum := ⟨I126_0q, O126_0q, Z126_0q, fun k d => c126_0q (giroref14_May_L1 k k) d, e126_0q⟩
def I126_1q : Spec := ⟨[(5, .c (.lit (.osl 1001000 none))), (6, .c (.lit (.osl 1001001 none))), (7, .c (.int .i64))], [.arr true y7q, .arr true y7q], [(6, none, y7q, false)]⟩
def X0_126_1q : Spec := ⟨[(6, .c (.lit (.osl 1001000 none)))], [.arr true y7q], []⟩
def O126_1q : List (Ex × Spec) := [(.exit 0, X0_126_1q)]
abbrev Z126_1q : Type := List K1q
def c126_1q (f : Int → List K1q → List K1q → Option Z126_1q) (d : I126_1q.den) : Option Z126_1q := f d.1.2.2.1.1 d.2.1 d.2.2.1
def T126_1q : OutD O126_1q → Z126_1q := fun d => d.2.1
def e126_1q (base : Nat) (x : Z126_1q) (R : Type) (K : Ex → St → Option R) : Option R := K (.exit 0) (stOf base X0_126_1q (((), ()), (x, ())))
def L126_1q : LoopSum := ⟨I126_1q, O126_1q, Z126_1q, fun k d => c126_1q (giroref14_May_L0 k k) d, e126_1q⟩
def A126q : Notes := ⟨[], [(9, L126_0q), (4, L126_1q)]⟩
theorem Eo126q : EnvOK E126q := ⟨eqOK_flat (fun t h => eqT_mem (p := fun t => Proofs.Try.prog.keyTypeAt 8 t && !Proofs.Try.prog.eqGuardType Proofs.Try.prog.depth t) (l := [51]) (List.forall_mem_cons.2 ⟨by kernel_rfl, List.forall_mem_nil _⟩) t h), sumsOf_ok (List.forall_mem_cons.2 ⟨Ro35q, List.forall_mem_cons.2 ⟨Ro36q, List.forall_mem_nil _⟩⟩)⟩
theorem El126q : SumsLocal E126q.sums := sumsOf_local (List.forall_mem_cons.2 ⟨Rl35q, List.forall_mem_cons.2 ⟨Rl36q, List.forall_mem_nil _⟩⟩)
theorem st126_0q (k : Nat) (rec : Int → Bool → Int → List K1q → List K1q → List K1q → Option Z126_0q) (d : I126_0q.den) : c126_0q (giroref14_May_L1b k rec) d = evC E126q A126q k 1000 0 61 (loopAt (loopAt (bodyOf Proofs.Try.f69) 0) 0) (stOf (1000 + loopBase) I126_0q d) (roundK 1000 I126_0q O126_0q T126_0q (c126_0q rec)) := by
  obtain ⟨⟨_, _, ⟨_, _⟩, _, ⟨_, _⟩, ⟨_, _⟩, _⟩, ⟨_, _, _, _⟩⟩ := d
  kernel_rfl
theorem lk126_0q : LoopOK Proofs.Try.prog 1000 0 61 (loopAt (loopAt (bodyOf Proofs.Try.f69) 0) 0) L126_0q :=
  loop_sound (A := A126q) (inS := I126_0q) (outs := O126_0q) Eo126q El126q mixed_orders (loopsOK_none (by kernel_rfl)) T126_0q e126_0q (fun _ _ _ => rfl) (fun k n d => c126_0q (giroref14_May_L1 k n) d) (fun _ _ => rfl) (fun k n d => st126_0q k (giroref14_May_L1 k n) d)
theorem st126_1q (k : Nat) (rec : Int → List K1q → List K1q → Option Z126_1q) (d : I126_1q.den) : c126_1q (giroref14_May_L0b k rec) d = evC E126q A126q k 1000 0 61 (loopAt (bodyOf Proofs.Try.f69) 0) (stOf (1000 + loopBase) I126_1q d) (roundK 1000 I126_1q O126_1q T126_1q (c126_1q rec)) := by
  obtain ⟨⟨_, _, ⟨_, _⟩, _⟩, ⟨_, _, _⟩⟩ := d
  kernel_rfl
theorem lk126_1q : LoopOK Proofs.Try.prog 1000 0 61 (loopAt (bodyOf Proofs.Try.f69) 0) L126_1q :=
  loop_sound (A := A126q) (inS := I126_1q) (outs := O126_1q) Eo126q El126q mixed_orders (loopsOK_of (n := 1) (by kernel_rfl) fun i hi => match i, hi with | 0, _ => ⟨L126_0q, by kernel_rfl, lk126_0q⟩ | i + 1, hi => absurd hi (by omega)) T126_1q e126_1q (fun _ _ _ => rfl) (fun k n d => c126_1q (giroref14_May_L0 k n) d) (fun _ _ => rfl) (fun k n d => st126_1q k (giroref14_May_L0 k n) d)
def as126q : List AS := [.c (.dat false y7q), .c (.int .i64)]
def rs126q : RS := .c (.own y7q)
def pk126q : List K1q → RL rs126q.cells := fun x => (x, ())
def up126q : RL rs126q.cells → List K1q := fun d => d.1
def R126q : Nat × Entry := (69, fun k nm args h => entry as126q rs126q (fun d => giroref14_May k d.1 d.2.1) pk126q nm args h)
theorem ev126q (k : Nat) (d : AD as126q) : evF E126q A126q k 1000 0 Proofs.Try.f69 (absArgs as126q d).1 (absArgs as126q d).2 (outM rs126q up126q) = giroref14_May k d.1 d.2.1 := by
  obtain ⟨_, _, _⟩ := d
  kernel_rfl
theorem Ro126q : EntryOK Proofs.Try.prog R126q := fun k _ _ _ _ _ hy =>
  entry_sound (unpack := up126q) (A := A126q) (k := k) (pre := 1000) (na := 0) (E := E126q) Eo126q El126q mixed_orders (f := 69) (fn := Proofs.Try.f69) (by kernel_rfl) (body_loops (loopsOK_of (n := 1) (by kernel_rfl) fun i hi => match i, hi with | 0, _ => ⟨L126_1q, by kernel_rfl, lk126_1q⟩ | i + 1, hi => absurd hi (by omega))) (enters (fn := Proofs.Try.f69) (by kernel_rfl) (by kernel_rfl) (by kernel_rfl)) (fun _ => rfl) (ev126q k) hy
theorem Rl126q : EntryLocal R126q.2 := entry_local (S := fun k (d : AD as126q) => giroref14_May k d.1 d.2.1)

/-! ### giro/giroref18.Goes -/
noncomputable def E127q : Env := ⟨Proofs.Try.prog, fun _ => false, sumsOf [R90q, R103q]⟩
def A127q : Notes := ⟨[], []⟩
theorem Eo127q : EnvOK E127q := ⟨eqOK_none, sumsOf_ok (List.forall_mem_cons.2 ⟨Ro90q, List.forall_mem_cons.2 ⟨Ro103q, List.forall_mem_nil _⟩⟩)⟩
theorem El127q : SumsLocal E127q.sums := sumsOf_local (List.forall_mem_cons.2 ⟨Rl90q, List.forall_mem_cons.2 ⟨Rl103q, List.forall_mem_nil _⟩⟩)
def as127q : List AS := [.agg [.dat true y3q, .dat true (.sl (.int .i64)), .dat true (.int .i64), .dat true (.sl (.int .i64))], .c (.dat false y7q)]
def rs127q : RS := .tup [(true, [.fro y3q, .fro (.sl (.int .i64)), .fro (.int .i64), .fro (.sl (.int .i64))]), (false, [.bool])]
def pk127q : (List K2q) × (List (List Int)) × (List Int) × (List (List Int)) × Bool → RL rs127q.cells := fun x => (x.1, x.2.1, x.2.2.1, x.2.2.2.1, x.2.2.2.2, ())
def up127q : RL rs127q.cells → (List K2q) × (List (List Int)) × (List Int) × (List (List Int)) × Bool := fun d => (d.1, d.2.1, d.2.2.1, d.2.2.2.1, d.2.2.2.2.1)
def R127q : Nat × Entry := (70, fun k nm args h => entry as127q rs127q (fun d => giroref18_Goes k d.1 d.2.1 d.2.2.1 d.2.2.2.1 d.2.2.2.2.1) pk127q nm args h)
theorem ev127q (k : Nat) (d : AD as127q) : evF E127q A127q k 1000 0 Proofs.Try.f70 (absArgs as127q d).1 (absArgs as127q d).2 (outM rs127q up127q) = giroref18_Goes k d.1 d.2.1 d.2.2.1 d.2.2.2.1 d.2.2.2.2.1 := by
  obtain ⟨_, _, _, _, _, _⟩ := d
  kernel_rfl
theorem Ro127q : EntryOK Proofs.Try.prog R127q := fun k _ _ _ _ _ hy =>
  entry_sound (unpack := up127q) (A := A127q) (k := k) (pre := 1000) (na := 0) (E := E127q) Eo127q El127q mixed_orders (f := 70) (fn := Proofs.Try.f70) (by kernel_rfl) (body_loops (loopsOK_none (by kernel_rfl))) (enters (fn := Proofs.Try.f70) (by kernel_rfl) (by kernel_rfl) (by kernel_rfl)) (fun _ => rfl) (ev127q k) hy
theorem Rl127q : EntryLocal R127q.2 := entry_local (S := fun k (d : AD as127q) => giroref18_Goes k d.1 d.2.1 d.2.2.1 d.2.2.2.1 d.2.2.2.2.1)

/-! ### giro/giroref18.Next -/
noncomputable def E128q : Env := ⟨Proofs.Try.prog, fun _ => false, sumsOf [R126q, R127q]⟩
def I128_0q : Spec := ⟨[(3, .c (.lit (.ptr 1001000 0))), (6, .c (.lit (.ptr 1001001 0))), (8, .c (.lit (.osl 1001002 none))), (9, .c (.int .i64))], [.box true [.dat true y3q, .dat true (.sl (.int .i64)), .dat true (.int .i64), .dat true (.sl (.int .i64))], .box true [.int .i64, .int .i64, .int .i64, .int .i64, .int .i64, .int .i64, .int .i64], .arr true y7q], []⟩
def X0_128_0q : Spec := ⟨[(6, .c (.lit (.ptr 1001000 0)))], [.box true [.int .i64, .int .i64, .int .i64, .int .i64, .int .i64, .int .i64, .int .i64]], []⟩
def X1_128_0q : Spec := ⟨[(6, .c (.lit (.ptr 1001000 0))), (7, .c (.bool))], [.box true [.int .i64, .int .i64, .int .i64, .int .i64, .int .i64, .int .i64, .int .i64]], []⟩
def O128_0q : List (Ex × Spec) := [(.exit 0, X0_128_0q), (.ret, X1_128_0q)]
abbrev Z128_0q : Type := K1q ⊕ (Bool × Int × Int × Int × Int × Int × Int × Int)
def c128_0q (f : Int → List K2q → List (List Int) → List Int → List (List Int) → Int → Int → Int → Int → Int → Int → Int → List K1q → Option Z128_0q) (d : I128_0q.den) : Option Z128_0q := f d.1.2.2.2.1.1 d.2.1.1 d.2.1.2.1 d.2.1.2.2.1 d.2.1.2.2.2.1 d.2.2.1.1 d.2.2.1.2.1 d.2.2.1.2.2.1 d.2.2.1.2.2.2.1 d.2.2.1.2.2.2.2.1 d.2.2.1.2.2.2.2.2.1 d.2.2.1.2.2.2.2.2.2.1 d.2.2.2.1
def T128_0q : OutD O128_0q → Z128_0q
 | .inl d => .inl (d.2.1.1, d.2.1.2.1, d.2.1.2.2.1, d.2.1.2.2.2.1, d.2.1.2.2.2.2.1, d.2.1.2.2.2.2.2.1, d.2.1.2.2.2.2.2.2.1)
 | .inr d => .inr (d.1.2.1.1, d.2.1.1, d.2.1.2.1, d.2.1.2.2.1, d.2.1.2.2.2.1, d.2.1.2.2.2.2.1, d.2.1.2.2.2.2.2.1, d.2.1.2.2.2.2.2.2.1)
def e128_0q (base : Nat) (x : Z128_0q) (R : Type) (K : Ex → St → Option R) : Option R := match x with
 | .inl x => K (.exit 0) (stOf base X0_128_0q (((), ()), ((x.1, x.2.1, x.2.2.1, x.2.2.2.1, x.2.2.2.2.1, x.2.2.2.2.2.1, x.2.2.2.2.2.2, ()), ())))
 | .inr x => K .ret (stOf base X1_128_0q (((), (x.1, ()), ()), ((x.2.1, x.2.2.1, x.2.2.2.1, x.2.2.2.2.1, x.2.2.2.2.2.1, x.2.2.2.2.2.2.1, x.2.2.2.2.2.2.2, ()), ())))
def L128_0q : LoopSum := ⟨I128_0q, O128_0q, Z128_0q, fun k d => c128_0q (giroref18_Next_L0 k k) d, e128_0q⟩
def A128q : Notes := ⟨[], [(3, L128_0q)]⟩
theorem Eo128q : EnvOK E128q := ⟨eqOK_none, sumsOf_ok (List.forall_mem_cons.2 ⟨Ro126q, List.forall_mem_cons.2 ⟨Ro127q, List.forall_mem_nil _⟩⟩)⟩
theorem El128q : SumsLocal E128q.sums := sumsOf_local (List.forall_mem_cons.2 ⟨Rl126q, List.forall_mem_cons.2 ⟨Rl127q, List.forall_mem_nil _⟩⟩)
theorem st128_0q (k : Nat) (rec : Int → List K2q → List (List Int) → List Int → List (List Int) → Int → Int → Int → Int → Int → Int → Int → List K1q → Option Z128_0q) (d : I128_0q.den) : c128_0q (giroref18_Next_L0b k rec) d = evC E128q A128q k 1000 0 37 (loopAt (bodyOf Proofs.Try.f36) 0) (stOf (1000 + loopBase) I128_0q d) (roundK 1000 I128_0q O128_0q T128_0q (c128_0q rec)) := by
  obtain ⟨⟨_, _, _, ⟨_, _⟩, _⟩, ⟨⟨_, _, _, _, _⟩, ⟨_, _, _, _, _, _, _, _⟩, _, _⟩⟩ := d
  kernel_rfl
theorem lk128_0q : LoopOK Proofs.Try.prog 1000 0 37 (loopAt (bodyOf Proofs.Try.f36) 0) L128_0q :=
  loop_sound (A := A128q) (inS := I128_0q) (outs := O128_0q) Eo128q El128q mixed_orders (loopsOK_none (by kernel_rfl)) T128_0q e128_0q (by intro o R K; rcases o with o | o <;> rfl) (fun k n d => c128_0q (giroref18_Next_L0 k n) d) (fun _ _ => rfl) (fun k n d => st128_0q k (giroref18_Next_L0 k n) d)
def as128q : List AS := [.agg [.dat true y3q, .dat true (.sl (.int .i64)), .dat true (.int .i64), .dat true (.sl (.int .i64))], .c (.dat true y7q), .c (.int .i64)]
def rs128q : RS := .tup [(true, [.int .i64, .int .i64, .int .i64, .int .i64, .int .i64, .int .i64, .int .i64]), (false, [.bool])]
def pk128q : Int × Int × Int × Int × Int × Int × Int × Bool → RL rs128q.cells := fun x => (x.1, x.2.1, x.2.2.1, x.2.2.2.1, x.2.2.2.2.1, x.2.2.2.2.2.1, x.2.2.2.2.2.2.1, x.2.2.2.2.2.2.2, ())
def up128q : RL rs128q.cells → Int × Int × Int × Int × Int × Int × Int × Bool := fun d => (d.1, d.2.1, d.2.2.1, d.2.2.2.1, d.2.2.2.2.1, d.2.2.2.2.2.1, d.2.2.2.2.2.2.1, d.2.2.2.2.2.2.2.1)
def R128q : Nat × Entry := (36, fun k nm args h => entry as128q rs128q (fun d => giroref18_Next k d.1 d.2.1 d.2.2.1 d.2.2.2.1 d.2.2.2.2.1 d.2.2.2.2.2.1) pk128q nm args h)
theorem ev128q (k : Nat) (d : AD as128q) : evF E128q A128q k 1000 0 Proofs.Try.f36 (absArgs as128q d).1 (absArgs as128q d).2 (outM rs128q up128q) = giroref18_Next k d.1 d.2.1 d.2.2.1 d.2.2.2.1 d.2.2.2.2.1 d.2.2.2.2.2.1 := by
  obtain ⟨_, _, _, _, _, _, _⟩ := d
  kernel_rfl
theorem Ro128q : EntryOK Proofs.Try.prog R128q := fun k _ _ _ _ _ hy =>
  entry_sound (unpack := up128q) (A := A128q) (k := k) (pre := 1000) (na := 0) (E := E128q) Eo128q El128q mixed_orders (f := 36) (fn := Proofs.Try.f36) (by kernel_rfl) (body_loops (loopsOK_of (n := 1) (by kernel_rfl) fun i hi => match i, hi with | 0, _ => ⟨L128_0q, by kernel_rfl, lk128_0q⟩ | i + 1, hi => absurd hi (by omega))) (enters (fn := Proofs.Try.f36) (by kernel_rfl) (by kernel_rfl) (by kernel_rfl)) (fun _ => rfl) (ev128q k) hy
theorem Rl128q : EntryLocal R128q.2 := entry_local (S := fun k (d : AD as128q) => giroref18_Next k d.1 d.2.1 d.2.2.1 d.2.2.2.1 d.2.2.2.2.1 d.2.2.2.2.2.1)

/-! ### giro/giroref19.Next -/
noncomputable def E129q : Env := ⟨Proofs.Try.prog, fun _ => false, sumsOf [R126q, R127q]⟩
def I129_0q : Spec := ⟨[(3, .c (.lit (.ptr 1001000 0))), (6, .c (.lit (.ptr 1001001 0))), (7, .c (.lit (.ptr 1001002 0))), (9, .c (.lit (.osl 1001003 none))), (10, .c (.int .i64)), (11, .c (.int .i64))], [.box true [.dat true y3q, .dat true (.sl (.int .i64)), .dat true (.int .i64), .dat true (.sl (.int .i64))], .box true [.int .i64, .int .i64, .int .i64, .int .i64, .int .i64, .int .i64, .int .i64], .box true [.int .i64, .int .i64, .int .i64, .int .i64, .int .i64, .int .i64, .int .i64], .arr true y7q], []⟩
def X0_129_0q : Spec := ⟨[(3, .c (.lit (.ptr 1001000 0))), (6, .c (.lit (.ptr 1001001 0))), (7, .c (.lit (.ptr 1001002 0))), (9, .c (.lit (.osl 1001003 none))), (10, .c (.int .i64))], [.box true [.dat true y3q, .dat true (.sl (.int .i64)), .dat true (.int .i64), .dat true (.sl (.int .i64))], .box true [.int .i64, .int .i64, .int .i64, .int .i64, .int .i64, .int .i64, .int .i64], .box true [.int .i64, .int .i64, .int .i64, .int .i64, .int .i64, .int .i64, .int .i64], .arr true y7q], []⟩
def X1_129_0q : Spec := ⟨[(6, .c (.lit (.ptr 1001000 0))), (7, .c (.lit (.ptr 1001001 0))), (8, .c (.bool))], [.box true [.int .i64, .int .i64, .int .i64, .int .i64, .int .i64, .int .i64, .int .i64], .box true [.int .i64, .int .i64, .int .i64, .int .i64, .int .i64, .int .i64, .int .i64]], []⟩
def O129_0q : List (Ex × Spec) := [(.exit 2, X0_129_0q), (.ret, X1_129_0q)]
abbrev Z129_0q : Type := (Int × (List K2q) × (List (List Int)) × (List Int) × (List (List Int)) × Int × Int × Int × Int × Int × Int × Int × Int × Int × Int × Int × Int × Int × Int × (List K1q)) ⊕ (Bool × Int × Int × Int × Int × Int × Int × Int × Int × Int × Int × Int × Int × Int × Int)
def c129_0q (f : Int → Int → List K2q → List (List Int) → List Int → List (List Int) → Int → Int → Int → Int → Int → Int → Int → Int → Int → Int → Int → Int → Int → Int → List K1q → Option Z129_0q) (d : I129_0q.den) : Option Z129_0q := f d.1.2.2.2.2.1.1 d.1.2.2.2.2.2.1.1 d.2.1.1 d.2.1.2.1 d.2.1.2.2.1 d.2.1.2.2.2.1 d.2.2.1.1 d.2.2.1.2.1 d.2.2.1.2.2.1 d.2.2.1.2.2.2.1 d.2.2.1.2.2.2.2.1 d.2.2.1.2.2.2.2.2.1 d.2.2.1.2.2.2.2.2.2.1 d.2.2.2.1.1 d.2.2.2.1.2.1 d.2.2.2.1.2.2.1 d.2.2.2.1.2.2.2.1 d.2.2.2.1.2.2.2.2.1 d.2.2.2.1.2.2.2.2.2.1 d.2.2.2.1.2.2.2.2.2.2.1 d.2.2.2.2.1
def T129_0q : OutD O129_0q → Z129_0q
 | .inl d => .inl (d.1.2.2.2.2.1.1, d.2.1.1, d.2.1.2.1, d.2.1.2.2.1, d.2.1.2.2.2.1, d.2.2.1.1, d.2.2.1.2.1, d.2.2.1.2.2.1, d.2.2.1.2.2.2.1, d.2.2.1.2.2.2.2.1, d.2.2.1.2.2.2.2.2.1, d.2.2.1.2.2.2.2.2.2.1, d.2.2.2.1.1, d.2.2.2.1.2.1, d.2.2.2.1.2.2.1, d.2.2.2.1.2.2.2.1, d.2.2.2.1.2.2.2.2.1, d.2.2.2.1.2.2.2.2.2.1, d.2.2.2.1.2.2.2.2.2.2.1, d.2.2.2.2.1)
 | .inr d => .inr (d.1.2.2.1.1, d.2.1.1, d.2.1.2.1, d.2.1.2.2.1, d.2.1.2.2.2.1, d.2.1.2.2.2.2.1, d.2.1.2.2.2.2.2.1, d.2.1.2.2.2.2.2.2.1, d.2.2.1.1, d.2.2.1.2.1, d.2.2.1.2.2.1, d.2.2.1.2.2.2.1, d.2.2.1.2.2.2.2.1, d.2.2.1.2.2.2.2.2.1, d.2.2.1.2.2.2.2.2.2.1)
def e129_0q (base : Nat) (x : Z129_0q) (R : Type) (K : Ex → St → Option R) : Option R := match x with
 | .inl x => K (.exit 2) (stOf base X0_129_0q (((), (), (), (), (x.1, ()), ()), ((x.2.1, x.2.2.1, x.2.2.2.1, x.2.2.2.2.1, ()), (x.2.2.2.2.2.1, x.2.2.2.2.2.2.1, x.2.2.2.2.2.2.2.1, x.2.2.2.2.2.2.2.2.1, x.2.2.2.2.2.2.2.2.2.1, x.2.2.2.2.2.2.2.2.2.2.1, x.2.2.2.2.2.2.2.2.2.2.2.1, ()), (x.2.2.2.2.2.2.2.2.2.2.2.2.1, x.2.2.2.2.2.2.2.2.2.2.2.2.2.1, x.2.2.2.2.2.2.2.2.2.2.2.2.2.2.1, x.2.2.2.2.2.2.2.2.2.2.2.2.2.2.2.1, x.2.2.2.2.2.2.2.2.2.2.2.2.2.2.2.2.1, x.2.2.2.2.2.2.2.2.2.2.2.2.2.2.2.2.2.1, x.2.2.2.2.2.2.2.2.2.2.2.2.2.2.2.2.2.2.1, ()), x.2.2.2.2.2.2.2.2.2.2.2.2.2.2.2.2.2.2.2, ())))
 | .inr x => K .ret (stOf base X1_129_0q (((), (), (x.1, ()), ()), ((x.2.1, x.2.2.1, x.2.2.2.1, x.2.2.2.2.1, x.2.2.2.2.2.1, x.2.2.2.2.2.2.1, x.2.2.2.2.2.2.2.1, ()), (x.2.2.2.2.2.2.2.2.1, x.2.2.2.2.2.2.2.2.2.1, x.2.2.2.2.2.2.2.2.2.2.1, x.2.2.2.2.2.2.2.2.2.2.2.1, x.2.2.2.2.2.2.2.2.2.2.2.2.1, x.2.2.2.2.2.2.2.2.2.2.2.2.2.1, x.2.2.2.2.2.2.2.2.2.2.2.2.2.2, ()), ())))
def L129_0q : LoopSum := ⟨I129_0q, O129_0q, Z129_0q, fun k d => c129_0q (giroref19_Next_L1 k k) d, e129_0q⟩
def I129_1q : Spec := ⟨[(3, .c (.lit (.ptr 1001000 0))), (6, .c (.lit (.ptr 1001001 0))), (7, .c (.lit (.ptr 1001002 0))), (9, .c (.lit (.osl 1001003 none))), (10, .c (.int .i64))], [.box true [.dat true y3q, .dat true (.sl (.int .i64)), .dat true (.int .i64), .dat true (.sl (.int .i64))], .box true [.int .i64, .int .i64, .int .i64, .int .i64, .int .i64, .int .i64, .int .i64], .box true [.int .i64, .int .i64, .int .i64, .int .i64, .int .i64, .int .i64, .int .i64], .arr true y7q], []⟩
def X0_129_1q : Spec := ⟨[(6, .c (.lit (.ptr 1001000 0))), (7, .c (.lit (.ptr 1001001 0)))], [.box true [.int .i64, .int .i64, .int .i64, .int .i64, .int .i64, .int .i64, .int .i64], .box true [.int .i64, .int .i64, .int .i64, .int .i64, .int .i64, .int .i64, .int .i64]], []⟩
def X1_129_1q : Spec := ⟨[(6, .c (.lit (.ptr 1001000 0))), (7, .c (.lit (.ptr 1001001 0))), (8, .c (.bool))], [.box true [.int .i64, .int .i64, .int .i64, .int .i64, .int .i64, .int .i64, .int .i64], .box true [.int .i64, .int .i64, .int .i64, .int .i64, .int .i64, .int .i64, .int .i64]], []⟩
def O129_1q : List (Ex × Spec) := [(.exit 0, X0_129_1q), (.ret, X1_129_1q)]
abbrev Z129_1q : Type := (Int × Int × Int × Int × Int × Int × Int × Int × Int × Int × Int × Int × Int × Int) ⊕ (Bool × Int × Int × Int × Int × Int × Int × Int × Int × Int × Int × Int × Int × Int × Int)
def c129_1q (f : Int → List K2q → List (List Int) → List Int → List (List Int) → Int → Int → Int → Int → Int → Int → Int → Int → Int → Int → Int → Int → Int → Int → List K1q → Option Z129_1q) (d : I129_1q.den) : Option Z129_1q := f d.1.2.2.2.2.1.1 d.2.1.1 d.2.1.2.1 d.2.1.2.2.1 d.2.1.2.2.2.1 d.2.2.1.1 d.2.2.1.2.1 d.2.2.1.2.2.1 d.2.2.1.2.2.2.1 d.2.2.1.2.2.2.2.1 d.2.2.1.2.2.2.2.2.1 d.2.2.1.2.2.2.2.2.2.1 d.2.2.2.1.1 d.2.2.2.1.2.1 d.2.2.2.1.2.2.1 d.2.2.2.1.2.2.2.1 d.2.2.2.1.2.2.2.2.1 d.2.2.2.1.2.2.2.2.2.1 d.2.2.2.1.2.2.2.2.2.2.1 d.2.2.2.2.1
def T129_1q : OutD O129_1q → Z129_1q
 | .inl d => .inl (d.2.1.1, d.2.1.2.1, d.2.1.2.2.1, d.2.1.2.2.2.1, d.2.1.2.2.2.2.1, d.2.1.2.2.2.2.2.1, d.2.1.2.2.2.2.2.2.1, d.2.2.1.1, d.2.2.1.2.1, d.2.2.1.2.2.1, d.2.2.1.2.2.2.1, d.2.2.1.2.2.2.2.1, d.2.2.1.2.2.2.2.2.1, d.2.2.1.2.2.2.2.2.2.1)
 | .inr d => .inr (d.1.2.2.1.1, d.2.1.1, d.2.1.2.1, d.2.1.2.2.1, d.2.1.2.2.2.1, d.2.1.2.2.2.2.1, d.2.1.2.2.2.2.2.1, d.2.1.2.2.2.2.2.2.1, d.2.2.1.1, d.2.2.1.2.1, d.2.2.1.2.2.1, d.2.2.1.2.2.2.1, d.2.2.1.2.2.2.2.1, d.2.2.1.2.2.2.2.2.1, d.2.2.1.2.2.2.2.2.2.1)
def e129_1q (base : Nat) (x : Z129_1q) (R : Type) (K : Ex → St → Option R) : Option R := match x with
 | .inl x => K (.exit 0) (stOf base X0_129_1q (((), (), ()), ((x.1, x.2.1, x.2.2.1, x.2.2.2.1, x.2.2.2.2.1, x.2.2.2.2.2.1, x.2.2.2.2.2.2.1, ()), (x.2.2.2.2.2.2.2.1, x.2.2.2.2.2.2.2.2.1, x.2.2.2.2.2.2.2.2.2.1, x.2.2.2.2.2.2.2.2.2.2.1, x.2.2.2.2.2.2.2.2.2.2.2.1, x.2.2.2.2.2.2.2.2.2.2.2.2.1, x.2.2.2.2.2.2.2.2.2.2.2.2.2, ()), ())))
 | .inr x => K .ret (stOf base X1_129_1q (((), (), (x.1, ()), ()), ((x.2.1, x.2.2.1, x.2.2.2.1, x.2.2.2.2.1, x.2.2.2.2.2.1, x.2.2.2.2.2.2.1, x.2.2.2.2.2.2.2.1, ()), (x.2.2.2.2.2.2.2.2.1, x.2.2.2.2.2.2.2.2.2.1, x.2.2.2.2.2.2.2.2.2.2.1, x.2.2.2.2.2.2.2.2.2.2.2.1, x.2.2.2.2.2.2.2.2.2.2.2.2.1, x.2.2.2.2.2.2.2.2.2.2.2.2.2.1, x.2.2.2.2.2.2.2.2.2.2.2.2.2.2, ()), ())))
def L129_1q : LoopSum := ⟨I129_1q, O129_1q, Z129_1q, fun k d => c129_1q (giroref19_Next_L0 k k) d, e129_1q⟩
def A129q : Notes := ⟨[], [(6, L129_0q), (3, L129_1q)]⟩
theorem Eo129q : EnvOK E129q := ⟨eqOK_none, sumsOf_ok (List.forall_mem_cons.2 ⟨Ro126q, List.forall_mem_cons.2 ⟨Ro127q, List.forall_mem_nil _⟩⟩)⟩
theorem El129q : SumsLocal E129q.sums := sumsOf_local (List.forall_mem_cons.2 ⟨Rl126q, List.forall_mem_cons.2 ⟨Rl127q, List.forall_mem_nil _⟩⟩)
theorem st129_0q (k : Nat) (rec : Int → Int → List K2q → List (List Int) → List Int → List (List Int) → Int → Int → Int → Int → Int → Int → Int → Int → Int → Int → Int → Int → Int → Int → List K1q → Option Z129_0q) (d : I129_0q.den) : c129_0q (giroref19_Next_L1b k rec) d = evC E129q A129q k 1000 0 71 (loopAt (loopAt (bodyOf Proofs.Try.f37) 0) 0) (stOf (1000 + loopBase) I129_0q d) (roundK 1000 I129_0q O129_0q T129_0q (c129_0q rec)) := by
  obtain ⟨⟨_, _, _, _, ⟨_, _⟩, ⟨_, _⟩, _⟩, ⟨⟨_, _, _, _, _⟩, ⟨_, _, _, _, _, _, _, _⟩, ⟨_, _, _, _, _, _, _, _⟩, _, _⟩⟩ := d
  kernel_rfl
theorem lk129_0q : LoopOK Proofs.Try.prog 1000 0 71 (loopAt (loopAt (bodyOf Proofs.Try.f37) 0) 0) L129_0q :=
  loop_sound (A := A129q) (inS := I129_0q) (outs := O129_0q) Eo129q El129q mixed_orders (loopsOK_none (by kernel_rfl)) T129_0q e129_0q (by intro o R K; rcases o with o | o <;> rfl) (fun k n d => c129_0q (giroref19_Next_L1 k n) d) (fun _ _ => rfl) (fun k n d => st129_0q k (giroref19_Next_L1 k n) d)
theorem st129_1q (k : Nat) (rec : Int → List K2q → List (List Int) → List Int → List (List Int) → Int → Int → Int → Int → Int → Int → Int → Int → Int → Int → Int → Int → Int → Int → List K1q → Option Z129_1q) (d : I129_1q.den) : c129_1q (giroref19_Next_L0b k rec) d = evC E129q A129q k 1000 0 71 (loopAt (bodyOf Proofs.Try.f37) 0) (stOf (1000 + loopBase) I129_1q d) (roundK 1000 I129_1q O129_1q T129_1q (c129_1q rec)) := by
  obtain ⟨⟨_, _, _, _, ⟨_, _⟩, _⟩, ⟨⟨_, _, _, _, _⟩, ⟨_, _, _, _, _, _, _, _⟩, ⟨_, _, _, _, _, _, _, _⟩, _, _⟩⟩ := d
  kernel_rfl
theorem lk129_1q : LoopOK Proofs.Try.prog 1000 0 71 (loopAt (bodyOf Proofs.Try.f37) 0) L129_1q :=
  loop_sound (A := A129q) (inS := I129_1q) (outs := O129_1q) Eo129q El129q mixed_orders (loopsOK_of (n := 1) (by kernel_rfl) fun i hi => match i, hi with | 0, _ => ⟨L129_0q, by kernel_rfl, lk129_0q⟩ | i + 1, hi => absurd hi (by omega)) T129_1q e129_1q (by intro o R K; rcases o with o | o <;> rfl) (fun k n d => c129_1q (giroref19_Next_L0 k n) d) (fun _ _ => rfl) (fun k n d => st129_1q k (giroref19_Next_L0 k n) d)
def as129q : List AS := [.agg [.dat true y3q, .dat true (.sl (.int .i64)), .dat true (.int .i64), .dat true (.sl (.int .i64))], .c (.dat true y7q), .c (.int .i64)]
def rs129q : RS := .tup [(true, [.int .i64, .int .i64, .int .i64, .int .i64, .int .i64, .int .i64, .int .i64]), (true, [.int .i64, .int .i64, .int .i64, .int .i64, .int .i64, .int .i64, .int .i64]), (false, [.bool])]
def pk129q : Int × Int × Int × Int × Int × Int × Int × Int × Int × Int × Int × Int × Int × Int × Bool → RL rs129q.cells := fun x => (x.1, x.2.1, x.2.2.1, x.2.2.2.1, x.2.2.2.2.1, x.2.2.2.2.2.1, x.2.2.2.2.2.2.1, x.2.2.2.2.2.2.2.1, x.2.2.2.2.2.2.2.2.1, x.2.2.2.2.2.2.2.2.2.1, x.2.2.2.2.2.2.2.2.2.2.1, x.2.2.2.2.2.2.2.2.2.2.2.1, x.2.2.2.2.2.2.2.2.2.2.2.2.1, x.2.2.2.2.2.2.2.2.2.2.2.2.2.1, x.2.2.2.2.2.2.2.2.2.2.2.2.2.2, ())
def up129q : RL rs129q.cells → Int × Int × Int × Int × Int × Int × Int × Int × Int × Int × Int × Int × Int × Int × Bool := fun d => (d.1, d.2.1, d.2.2.1, d.2.2.2.1, d.2.2.2.2.1, d.2.2.2.2.2.1, d.2.2.2.2.2.2.1, d.2.2.2.2.2.2.2.1, d.2.2.2.2.2.2.2.2.1, d.2.2.2.2.2.2.2.2.2.1, d.2.2.2.2.2.2.2.2.2.2.1, d.2.2.2.2.2.2.2.2.2.2.2.1, d.2.2.2.2.2.2.2.2.2.2.2.2.1, d.2.2.2.2.2.2.2.2.2.2.2.2.2.1, d.2.2.2.2.2.2.2.2.2.2.2.2.2.2.1)
def R129q : Nat × Entry := (37, fun k nm args h => entry as129q rs129q (fun d => giroref19_Next k d.1 d.2.1 d.2.2.1 d.2.2.2.1 d.2.2.2.2.1 d.2.2.2.2.2.1) pk129q nm args h)
theorem ev129q (k : Nat) (d : AD as129q) : evF E129q A129q k 1000 0 Proofs.Try.f37 (absArgs as129q d).1 (absArgs as129q d).2 (outM rs129q up129q) = giroref19_Next k d.1 d.2.1 d.2.2.1 d.2.2.2.1 d.2.2.2.2.1 d.2.2.2.2.2.1 := by
  obtain ⟨_, _, _, _, _, _, _⟩ := d
  kernel_rfl
theorem Ro129q : EntryOK Proofs.Try.prog R129q := fun k _ _ _ _ _ hy =>
  entry_sound (unpack := up129q) (A := A129q) (k := k) (pre := 1000) (na := 0) (E := E129q) Eo129q El129q mixed_orders (f := 37) (fn := Proofs.Try.f37) (by kernel_rfl) (body_loops (loopsOK_of (n := 1) (by kernel_rfl) fun i hi => match i, hi with | 0, _ => ⟨L129_1q, by kernel_rfl, lk129_1q⟩ | i + 1, hi => absurd hi (by omega))) (enters (fn := Proofs.Try.f37) (by kernel_rfl) (by kernel_rfl) (by kernel_rfl)) (fun _ => rfl) (ev129q k) hy
theorem Rl129q : EntryLocal R129q.2 := entry_local (S := fun k (d : AD as129q) => giroref19_Next k d.1 d.2.1 d.2.2.1 d.2.2.2.1 d.2.2.2.2.1 d.2.2.2.2.2.1)

/-! ### giro/girolaw21.ring -/
noncomputable def E130q : Env := ⟨Proofs.Try.prog, fun _ => false, sumsOf []⟩
def I130_0q : Spec := ⟨[(0, .c (.int .i64)), (3, .c (.lit (.osl 1001000 none))), (4, .c (.int .i64))], [.arr true y7q], [(3, none, y7q, false)]⟩
def X0_130_0q : Spec := ⟨[(3, .c (.lit (.osl 1001000 none)))], [.arr true y7q], []⟩
def O130_0q : List (Ex × Spec) := [(.exit 0, X0_130_0q)]
abbrev Z130_0q : Type := List K1q
def c130_0q (f : Int → Int → List K1q → Option Z130_0q) (d : I130_0q.den) : Option Z130_0q := f d.1.1.1 d.1.2.2.1.1 d.2.1
def T130_0q : OutD O130_0q → Z130_0q := fun d => d.2.1
def e130_0q (base : Nat) (x : Z130_0q) (R : Type) (K : Ex → St → Option R) : Option R := K (.exit 0) (stOf base X0_130_0q (((), ()), (x, ())))
def L130_0q : LoopSum := ⟨I130_0q, O130_0q, Z130_0q, fun k d => c130_0q (girolaw21_ring_L0 k k) d, e130_0q⟩
def A130q : Notes := ⟨[], [(3, L130_0q)]⟩
theorem Eo130q : EnvOK E130q := ⟨eqOK_none, sumsOf_ok (List.forall_mem_nil _)⟩
theorem El130q : SumsLocal E130q.sums := sumsOf_local (List.forall_mem_nil _)
theorem st130_0q (k : Nat) (rec : Int → Int → List K1q → Option Z130_0q) (d : I130_0q.den) : c130_0q (girolaw21_ring_L0b k rec) d = evC E130q A130q k 1000 0 21 (loopAt (bodyOf Proofs.Try.f71) 0) (stOf (1000 + loopBase) I130_0q d) (roundK 1000 I130_0q O130_0q T130_0q (c130_0q rec)) := by
  obtain ⟨⟨⟨_, _⟩, _, ⟨_, _⟩, _⟩, ⟨_, _⟩⟩ := d
  kernel_rfl
theorem lk130_0q : LoopOK Proofs.Try.prog 1000 0 21 (loopAt (bodyOf Proofs.Try.f71) 0) L130_0q :=
  loop_sound (A := A130q) (inS := I130_0q) (outs := O130_0q) Eo130q El130q mixed_orders (loopsOK_none (by kernel_rfl)) T130_0q e130_0q (fun _ _ _ => rfl) (fun k n d => c130_0q (girolaw21_ring_L0 k n) d) (fun _ _ => rfl) (fun k n d => st130_0q k (girolaw21_ring_L0 k n) d)
def as130q : List AS := [.c (.int .i64)]
def rs130q : RS := .c (.own y7q)
def pk130q : List K1q → RL rs130q.cells := fun x => (x, ())
def up130q : RL rs130q.cells → List K1q := fun d => d.1
def R130q : Nat × Entry := (71, fun k nm args h => entry as130q rs130q (fun d => girolaw21_ring k d.1) pk130q nm args h)
theorem ev130q (k : Nat) (d : AD as130q) : evF E130q A130q k 1000 0 Proofs.Try.f71 (absArgs as130q d).1 (absArgs as130q d).2 (outM rs130q up130q) = girolaw21_ring k d.1 := by
  obtain ⟨_, _⟩ := d
  kernel_rfl
theorem Ro130q : EntryOK Proofs.Try.prog R130q := fun k _ _ _ _ _ hy =>
  entry_sound (unpack := up130q) (A := A130q) (k := k) (pre := 1000) (na := 0) (E := E130q) Eo130q El130q mixed_orders (f := 71) (fn := Proofs.Try.f71) (by kernel_rfl) (body_loops (loopsOK_of (n := 1) (by kernel_rfl) fun i hi => match i, hi with | 0, _ => ⟨L130_0q, by kernel_rfl, lk130_0q⟩ | i + 1, hi => absurd hi (by omega))) (enters (fn := Proofs.Try.f71) (by kernel_rfl) (by kernel_rfl) (by kernel_rfl)) (fun _ => rfl) (ev130q k) hy
theorem Rl130q : EntryLocal R130q.2 := entry_local (S := fun k (d : AD as130q) => girolaw21_ring k d.1)

/-! ### giro/girolaw21.known -/
noncomputable def E131q : Env := ⟨Proofs.Try.prog, fun _ => false, sumsOf [R108q, R130q, R125q]⟩
def A131q : Notes := ⟨[], []⟩
theorem Eo131q : EnvOK E131q := ⟨eqOK_none, sumsOf_ok (List.forall_mem_cons.2 ⟨Ro108q, List.forall_mem_cons.2 ⟨Ro130q, List.forall_mem_cons.2 ⟨Ro125q, List.forall_mem_nil _⟩⟩⟩)⟩
theorem El131q : SumsLocal E131q.sums := sumsOf_local (List.forall_mem_cons.2 ⟨Rl108q, List.forall_mem_cons.2 ⟨Rl130q, List.forall_mem_cons.2 ⟨Rl125q, List.forall_mem_nil _⟩⟩⟩)
def as131q : List AS := []
def rs131q : RS := .c (.bool)
def pk131q : Bool → RL rs131q.cells := fun x => (x, ())
def up131q : RL rs131q.cells → Bool := fun d => d.1
def R131q : Nat × Entry := (38, fun k nm args h => entry as131q rs131q (fun d => girolaw21_known k) pk131q nm args h)
theorem ev131q (k : Nat) (d : AD as131q) : evF E131q A131q k 1000 0 Proofs.Try.f38 (absArgs as131q d).1 (absArgs as131q d).2 (outM rs131q up131q) = girolaw21_known k := by
  kernel_rfl
theorem Ro131q : EntryOK Proofs.Try.prog R131q := fun k _ _ _ _ _ hy =>
  entry_sound (unpack := up131q) (A := A131q) (k := k) (pre := 1000) (na := 0) (E := E131q) Eo131q El131q mixed_orders (f := 38) (fn := Proofs.Try.f38) (by kernel_rfl) (body_loops (loopsOK_none (by kernel_rfl))) (enters (fn := Proofs.Try.f38) (by kernel_rfl) (by kernel_rfl) (by kernel_rfl)) (fun _ => rfl) (ev131q k) hy
theorem Rl131q : EntryLocal R131q.2 := entry_local (S := fun k (d : AD as131q) => girolaw21_known k)

/-! ### giro/girolaw21.SettleEnds -/
noncomputable def E_girolaw21_SettleEnds : Env := ⟨Proofs.Try.prog, fun _ => false, sumsOf [R108q, R109q, R125q, R89q, R1q, R128q, R129q, R131q]⟩
def I_girolaw21_SettleEnds_L0 : Spec := ⟨[(3, .c (.int .i64)), (12, .c (.dat true y7q)), (13, .c (.lit (.ptr 1001000 0))), (14, .c (.dat true y7q)), (15, .c (.lit (.osl 1001001 none))), (16, .c (.int .i64))], [.box true [.dat true y3q, .dat true (.sl (.int .i64)), .dat true (.int .i64), .dat true (.sl (.int .i64))], .arr true y7q], []⟩
def X0_girolaw21_SettleEnds_L0 : Spec := ⟨[(3, .c (.int .i64)), (13, .c (.lit (.ptr 1001000 0))), (14, .c (.dat true y7q))], [.box true [.dat true y3q, .dat true (.sl (.int .i64)), .dat true (.int .i64), .dat true (.sl (.int .i64))]], []⟩
def X1_girolaw21_SettleEnds_L0 : Spec := ⟨[(10, .c (.bool))], [], []⟩
def O_girolaw21_SettleEnds_L0 : List (Ex × Spec) := [(.exit 0, X0_girolaw21_SettleEnds_L0), (.ret, X1_girolaw21_SettleEnds_L0)]
abbrev Z_girolaw21_SettleEnds_L0 : Type := (Int × (List K1q) × (List K2q) × (List (List Int)) × (List Int) × (List (List Int))) ⊕ Bool
def c_girolaw21_SettleEnds_L0 (f : Int → List K1q → List K1q → Int → List K2q → List (List Int) → List Int → List (List Int) → List K1q → Option Z_girolaw21_SettleEnds_L0) (d : I_girolaw21_SettleEnds_L0.den) : Option Z_girolaw21_SettleEnds_L0 := f d.1.1.1 d.1.2.1.1 d.1.2.2.2.1.1 d.1.2.2.2.2.2.1.1 d.2.1.1 d.2.1.2.1 d.2.1.2.2.1 d.2.1.2.2.2.1 d.2.2.1
def T_girolaw21_SettleEnds_L0 : OutD O_girolaw21_SettleEnds_L0 → Z_girolaw21_SettleEnds_L0
 | .inl d => .inl (d.1.1.1, d.1.2.2.1.1, d.2.1.1, d.2.1.2.1, d.2.1.2.2.1, d.2.1.2.2.2.1)
 | .inr d => .inr d.1.1.1
def e_girolaw21_SettleEnds_L0 (base : Nat) (x : Z_girolaw21_SettleEnds_L0) (R : Type) (K : Ex → St → Option R) : Option R := match x with
 | .inl x => K (.exit 0) (stOf base X0_girolaw21_SettleEnds_L0 (((x.1, ()), (), (x.2.1, ()), ()), ((x.2.2.1, x.2.2.2.1, x.2.2.2.2.1, x.2.2.2.2.2, ()), ())))
 | .inr x => K .ret (stOf base X1_girolaw21_SettleEnds_L0 (((x, ()), ()), ()))
def L_girolaw21_SettleEnds_L0 : LoopSum := ⟨I_girolaw21_SettleEnds_L0, O_girolaw21_SettleEnds_L0, Z_girolaw21_SettleEnds_L0, fun k d => c_girolaw21_SettleEnds_L0 (girolaw21_SettleEnds_L0 k k) d, e_girolaw21_SettleEnds_L0⟩
def A_girolaw21_SettleEnds : Notes := ⟨[], [(8, L_girolaw21_SettleEnds_L0)]⟩
theorem E_girolaw21_SettleEnds_ok : EnvOK E_girolaw21_SettleEnds := ⟨eqOK_none, sumsOf_ok (List.forall_mem_cons.2 ⟨Ro108q, List.forall_mem_cons.2 ⟨Ro109q, List.forall_mem_cons.2 ⟨Ro125q, List.forall_mem_cons.2 ⟨Ro89q, List.forall_mem_cons.2 ⟨Ro1q, List.forall_mem_cons.2 ⟨Ro128q, List.forall_mem_cons.2 ⟨Ro129q, List.forall_mem_cons.2 ⟨Ro131q, List.forall_mem_nil _⟩⟩⟩⟩⟩⟩⟩⟩)⟩
theorem E_girolaw21_SettleEnds_local : SumsLocal E_girolaw21_SettleEnds.sums := sumsOf_local (List.forall_mem_cons.2 ⟨Rl108q, List.forall_mem_cons.2 ⟨Rl109q, List.forall_mem_cons.2 ⟨Rl125q, List.forall_mem_cons.2 ⟨Rl89q, List.forall_mem_cons.2 ⟨Rl1q, List.forall_mem_cons.2 ⟨Rl128q, List.forall_mem_cons.2 ⟨Rl129q, List.forall_mem_cons.2 ⟨Rl131q, List.forall_mem_nil _⟩⟩⟩⟩⟩⟩⟩⟩)
theorem girolaw21_SettleEnds_L0_step (k : Nat) (rec : Int → List K1q → List K1q → Int → List K2q → List (List Int) → List Int → List (List Int) → List K1q → Option Z_girolaw21_SettleEnds_L0) (d : I_girolaw21_SettleEnds_L0.den) : c_girolaw21_SettleEnds_L0 (girolaw21_SettleEnds_L0b k rec) d = evC E_girolaw21_SettleEnds A_girolaw21_SettleEnds k 1000 0 99 (loopAt (bodyOf Proofs.Try.f9) 0) (stOf (1000 + loopBase) I_girolaw21_SettleEnds_L0 d) (roundK 1000 I_girolaw21_SettleEnds_L0 O_girolaw21_SettleEnds_L0 T_girolaw21_SettleEnds_L0 (c_girolaw21_SettleEnds_L0 rec)) := by
  obtain ⟨⟨⟨_, _⟩, ⟨_, _⟩, _, ⟨_, _⟩, _, ⟨_, _⟩, _⟩, ⟨⟨_, _, _, _, _⟩, _, _⟩⟩ := d
  kernel_rfl
theorem girolaw21_SettleEnds_L0_ok : LoopOK Proofs.Try.prog 1000 0 99 (loopAt (bodyOf Proofs.Try.f9) 0) L_girolaw21_SettleEnds_L0 :=
  loop_sound (A := A_girolaw21_SettleEnds) (inS := I_girolaw21_SettleEnds_L0) (outs := O_girolaw21_SettleEnds_L0) E_girolaw21_SettleEnds_ok E_girolaw21_SettleEnds_local mixed_orders (loopsOK_none (by kernel_rfl)) T_girolaw21_SettleEnds_L0 e_girolaw21_SettleEnds_L0 (by intro o R K; rcases o with o | o <;> rfl) (fun k n d => c_girolaw21_SettleEnds_L0 (girolaw21_SettleEnds_L0 k n) d) (fun _ _ => rfl) (fun k n d => girolaw21_SettleEnds_L0_step k (girolaw21_SettleEnds_L0 k n) d)
def as_girolaw21_SettleEnds : List AS := [.c (.dat false (.int .i64)), .c (.int .i64), .c (.dat false y7q), .c (.int .i64), .c (.bool)]
def rs_girolaw21_SettleEnds : RS := .c (.bool)
def pk_girolaw21_SettleEnds : Bool → RL rs_girolaw21_SettleEnds.cells := fun x => (x, ())
def up_girolaw21_SettleEnds : RL rs_girolaw21_SettleEnds.cells → Bool := fun d => d.1
def R_girolaw21_SettleEnds : Nat × Entry := (9, fun k nm args h => entry as_girolaw21_SettleEnds rs_girolaw21_SettleEnds (fun d => girolaw21_SettleEnds k d.1 d.2.1 d.2.2.1 d.2.2.2.1 d.2.2.2.2.1) pk_girolaw21_SettleEnds nm args h)
theorem girolaw21_SettleEnds_ev (k : Nat) (d : AD as_girolaw21_SettleEnds) : evF E_girolaw21_SettleEnds A_girolaw21_SettleEnds k 1000 0 Proofs.Try.f9 (absArgs as_girolaw21_SettleEnds d).1 (absArgs as_girolaw21_SettleEnds d).2 (outM rs_girolaw21_SettleEnds up_girolaw21_SettleEnds) = girolaw21_SettleEnds k d.1 d.2.1 d.2.2.1 d.2.2.2.1 d.2.2.2.2.1 := by
  obtain ⟨_, _, _, _, _, _⟩ := d
  kernel_rfl
theorem R_girolaw21_SettleEnds_ok : EntryOK Proofs.Try.prog R_girolaw21_SettleEnds := fun k _ _ _ _ _ hy =>
  entry_sound (unpack := up_girolaw21_SettleEnds) (A := A_girolaw21_SettleEnds) (k := k) (pre := 1000) (na := 0) (E := E_girolaw21_SettleEnds) E_girolaw21_SettleEnds_ok E_girolaw21_SettleEnds_local mixed_orders (f := 9) (fn := Proofs.Try.f9) (by kernel_rfl) (body_loops (loopsOK_of (n := 1) (by kernel_rfl) fun i hi => match i, hi with | 0, _ => ⟨L_girolaw21_SettleEnds_L0, by kernel_rfl, girolaw21_SettleEnds_L0_ok⟩ | i + 1, hi => absurd hi (by omega))) (enters (fn := Proofs.Try.f9) (by kernel_rfl) (by kernel_rfl) (by kernel_rfl)) (fun _ => rfl) (girolaw21_SettleEnds_ev k) hy
theorem R_girolaw21_SettleEnds_local : EntryLocal R_girolaw21_SettleEnds.2 := entry_local (S := fun k (d : AD as_girolaw21_SettleEnds) => girolaw21_SettleEnds k d.1 d.2.1 d.2.2.1 d.2.2.2.1 d.2.2.2.2.1)

end Go.Ab.Gi
