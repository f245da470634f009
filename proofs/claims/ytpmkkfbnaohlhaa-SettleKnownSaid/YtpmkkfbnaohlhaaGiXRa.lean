/- The shallow functions are what the program does, printed (abprint.py). -/
import Derived.Test.YtpmkkfbnaohlhaaGiXS
import Derived.Test.YtpmkkfbnaohlhaaProg
set_option linter.unusedVariables false
set_option maxRecDepth 100000
namespace Go.Ab.Gi

theorem mixed_orders : Proofs.Try.prog.follows .mixedOrders = true := by kernel_rfl

/-! ### giro/lim.Net -/
noncomputable def E_lim_Net : Env := ⟨Proofs.Try.prog, fun _ => false, sumsOf []⟩
def I_lim_Net_L0 : Spec := ⟨[(5, .c (.int .i64)), (12, .c (.dat false (.int .i64))), (13, .c (.int .i64)), (14, .c (.int .i64))], [], []⟩
def O_lim_Net_L0 : List (Ex × Spec) := [(.exit 0, ⟨[(5, .c (.int .i64))], [], []⟩)]
def T_lim_Net_L0 : OutD O_lim_Net_L0 → Int := fun d => d.1.1.1
def e_lim_Net_L0 (base : Nat) (x : Int) (R : Type) (K : Ex → St → Option R) : Option R := K (.exit 0) (stOf base ⟨[(5, .c (.int .i64))], [], []⟩ (((x, ()), ()), ()))
def L_lim_Net_L0 : LoopSum := ⟨I_lim_Net_L0, O_lim_Net_L0, Int, fun k d => lim_Net_L0 k k d.1.1.1 d.1.2.1.1 d.1.2.2.1.1 d.1.2.2.2.1.1, e_lim_Net_L0⟩
def A_lim_Net : Notes := ⟨[], [(3, L_lim_Net_L0)]⟩
theorem E_lim_Net_ok : EnvOK E_lim_Net := ⟨eqOK_none, sumsOf_ok (List.forall_mem_nil _)⟩
theorem E_lim_Net_local : SumsLocal E_lim_Net.sums := sumsOf_local (List.forall_mem_nil _)
theorem lim_Net_L0_step (k : Nat) (rec : Int → List Int → Int → Int → Option (Int)) (d : I_lim_Net_L0.den) : lim_Net_L0b k rec d.1.1.1 d.1.2.1.1 d.1.2.2.1.1 d.1.2.2.2.1.1 = evC E_lim_Net A_lim_Net k 1000 0 23 (loopAt (bodyOf Proofs.Try.f16) 0) (stOf (1000 + loopBase) I_lim_Net_L0 d) (roundK 1000 I_lim_Net_L0 O_lim_Net_L0 T_lim_Net_L0 fun d => rec d.1.1.1 d.1.2.1.1 d.1.2.2.1.1 d.1.2.2.2.1.1) := by
  obtain ⟨⟨⟨_, _⟩, ⟨_, _⟩, ⟨_, _⟩, ⟨_, _⟩, _⟩, _⟩ := d
  kernel_rfl
theorem lim_Net_L0_ok : LoopOK Proofs.Try.prog 1000 0 23 (loopAt (bodyOf Proofs.Try.f16) 0) L_lim_Net_L0 :=
  loop_sound (A := A_lim_Net) (inS := I_lim_Net_L0) (outs := O_lim_Net_L0) E_lim_Net_ok E_lim_Net_local mixed_orders (loopsOK_none (by kernel_rfl)) T_lim_Net_L0 e_lim_Net_L0 (fun _ _ _ => rfl) (fun k n d => lim_Net_L0 k n d.1.1.1 d.1.2.1.1 d.1.2.2.1.1 d.1.2.2.2.1.1) (fun _ _ => rfl) (fun k n d => lim_Net_L0_step k (lim_Net_L0 k n) d)
def as_lim_Net : List AS := [.agg [.dat false (.pair (.int .i64) (.pair (.int .i64) (.int .i64))), .dat false (.sl (.int .i64)), .dat false (.int .i64), .dat false (.sl (.int .i64))], .c (.int .i64)]
def rs_lim_Net : RS := .c (.int .i64)
def pk_lim_Net : Int → RL rs_lim_Net.cells := fun x => (x, ())
def up_lim_Net : RL rs_lim_Net.cells → Int := fun d => d.1
def R_lim_Net : Nat × Entry := (16, fun k nm args h => entry as_lim_Net rs_lim_Net (fun d => lim_Net k d.1 d.2.1 d.2.2.1 d.2.2.2.1 d.2.2.2.2.1) pk_lim_Net nm args h)
theorem lim_Net_ev (k : Nat) (d : AD as_lim_Net) : evF E_lim_Net A_lim_Net k 1000 0 Proofs.Try.f16 (absArgs as_lim_Net d).1 (absArgs as_lim_Net d).2 (outM rs_lim_Net up_lim_Net) = lim_Net k d.1 d.2.1 d.2.2.1 d.2.2.2.1 d.2.2.2.2.1 := by
  obtain ⟨_, _, _, _, _, _⟩ := d
  kernel_rfl
theorem R_lim_Net_ok : EntryOK Proofs.Try.prog R_lim_Net := fun k _ _ _ _ _ hy =>
  entry_sound (unpack := up_lim_Net) (A := A_lim_Net) (k := k) (pre := 1000) (na := 0) (E := E_lim_Net) E_lim_Net_ok E_lim_Net_local mixed_orders (f := 16) (fn := Proofs.Try.f16) (by kernel_rfl) (body_loops (loopsOK_of (n := 1) (by kernel_rfl) fun i hi => match i, hi with | 0, _ => ⟨L_lim_Net_L0, by kernel_rfl, lim_Net_L0_ok⟩ | i + 1, hi => absurd hi (by omega))) (enters (fn := Proofs.Try.f16) (by kernel_rfl) (by kernel_rfl) (by kernel_rfl)) (fun _ => rfl) (lim_Net_ev k) hy
theorem R_lim_Net_local : EntryLocal R_lim_Net.2 := entry_local (S := fun k (d : AD as_lim_Net) => lim_Net k d.1 d.2.1 d.2.2.1 d.2.2.2.1 d.2.2.2.2.1)

/-! ### giro/lim.isSize -/
noncomputable def E_lim_isSize : Env := ⟨Proofs.Try.prog, fun _ => false, sumsOf []⟩
def A_lim_isSize : Notes := ⟨[], []⟩
theorem E_lim_isSize_ok : EnvOK E_lim_isSize := ⟨eqOK_none, sumsOf_ok (List.forall_mem_nil _)⟩
theorem E_lim_isSize_local : SumsLocal E_lim_isSize.sums := sumsOf_local (List.forall_mem_nil _)
def as_lim_isSize : List AS := [.c (.int .i64)]
def rs_lim_isSize : RS := .c (.bool)
def pk_lim_isSize : Bool → RL rs_lim_isSize.cells := fun x => (x, ())
def up_lim_isSize : RL rs_lim_isSize.cells → Bool := fun d => d.1
def R_lim_isSize : Nat × Entry := (68, fun k nm args h => entry as_lim_isSize rs_lim_isSize (fun d => lim_isSize k d.1) pk_lim_isSize nm args h)
theorem lim_isSize_ev (k : Nat) (d : AD as_lim_isSize) : evF E_lim_isSize A_lim_isSize k 1000 0 Proofs.Try.f68 (absArgs as_lim_isSize d).1 (absArgs as_lim_isSize d).2 (outM rs_lim_isSize up_lim_isSize) = lim_isSize k d.1 := by
  obtain ⟨_, _⟩ := d
  kernel_rfl
theorem R_lim_isSize_ok : EntryOK Proofs.Try.prog R_lim_isSize := fun k _ _ _ _ _ hy =>
  entry_sound (unpack := up_lim_isSize) (A := A_lim_isSize) (k := k) (pre := 1000) (na := 0) (E := E_lim_isSize) E_lim_isSize_ok E_lim_isSize_local mixed_orders (f := 68) (fn := Proofs.Try.f68) (by kernel_rfl) (body_loops (loopsOK_none (by kernel_rfl))) (enters (fn := Proofs.Try.f68) (by kernel_rfl) (by kernel_rfl) (by kernel_rfl)) (fun _ => rfl) (lim_isSize_ev k) hy
theorem R_lim_isSize_local : EntryLocal R_lim_isSize.2 := entry_local (S := fun k (d : AD as_lim_isSize) => lim_isSize k d.1)

/-! ### giro/lim.Row -/
noncomputable def E_lim_Row : Env := ⟨Proofs.Try.prog, fun _ => false, sumsOf [R_lim_isSize]⟩
def I_lim_Row_L0 : Spec := ⟨[(1, .c (.int .i64)), (5, .c (.lit (.osl 1001000 none))), (13, .c (.int .i64)), (14, .c (.int .i64))], [.arr true (.int .i64)], []⟩
def O_lim_Row_L0 : List (Ex × Spec) := [(.exit 0, ⟨[(5, .c (.lit (.osl 1001000 none)))], [.arr true (.int .i64)], []⟩)]
def T_lim_Row_L0 : OutD O_lim_Row_L0 → List Int := fun d => d.2.1
def e_lim_Row_L0 (base : Nat) (x : List Int) (R : Type) (K : Ex → St → Option R) : Option R := K (.exit 0) (stOf base ⟨[(5, .c (.lit (.osl 1001000 none)))], [.arr true (.int .i64)], []⟩ (((), ()), (x, ())))
def L_lim_Row_L0 : LoopSum := ⟨I_lim_Row_L0, O_lim_Row_L0, List Int, fun k d => lim_Row_L0 k k d.1.1.1 d.1.2.2.1.1 d.1.2.2.2.1.1 d.2.1, e_lim_Row_L0⟩
def A_lim_Row : Notes := ⟨[], [(5, L_lim_Row_L0)]⟩
theorem E_lim_Row_ok : EnvOK E_lim_Row := ⟨eqOK_none, sumsOf_ok (List.forall_mem_cons.2 ⟨R_lim_isSize_ok, List.forall_mem_nil _⟩)⟩
theorem E_lim_Row_local : SumsLocal E_lim_Row.sums := sumsOf_local (List.forall_mem_cons.2 ⟨R_lim_isSize_local, List.forall_mem_nil _⟩)
theorem lim_Row_L0_step (k : Nat) (rec : Int → Int → Int → List Int → Option (List Int)) (d : I_lim_Row_L0.den) : lim_Row_L0b k rec d.1.1.1 d.1.2.2.1.1 d.1.2.2.2.1.1 d.2.1 = evC E_lim_Row A_lim_Row k 1000 0 23 (loopAt (bodyOf Proofs.Try.f27) 0) (stOf (1000 + loopBase) I_lim_Row_L0 d) (roundK 1000 I_lim_Row_L0 O_lim_Row_L0 T_lim_Row_L0 fun d => rec d.1.1.1 d.1.2.2.1.1 d.1.2.2.2.1.1 d.2.1) := by
  obtain ⟨⟨⟨_, _⟩, _, ⟨_, _⟩, ⟨_, _⟩, _⟩, ⟨_, _⟩⟩ := d
  kernel_rfl
theorem lim_Row_L0_ok : LoopOK Proofs.Try.prog 1000 0 23 (loopAt (bodyOf Proofs.Try.f27) 0) L_lim_Row_L0 :=
  loop_sound (A := A_lim_Row) (inS := I_lim_Row_L0) (outs := O_lim_Row_L0) E_lim_Row_ok E_lim_Row_local mixed_orders (loopsOK_none (by kernel_rfl)) T_lim_Row_L0 e_lim_Row_L0 (fun _ _ _ => rfl) (fun k n d => lim_Row_L0 k n d.1.1.1 d.1.2.2.1.1 d.1.2.2.2.1.1 d.2.1) (fun _ _ => rfl) (fun k n d => lim_Row_L0_step k (lim_Row_L0 k n) d)
def as_lim_Row : List AS := [.c (.int .i64), .c (.int .i64)]
def rs_lim_Row : RS := .c (.own (.int .i64))
def pk_lim_Row : List Int → RL rs_lim_Row.cells := fun x => (x, ())
def up_lim_Row : RL rs_lim_Row.cells → List Int := fun d => d.1
def R_lim_Row : Nat × Entry := (27, fun k nm args h => entry as_lim_Row rs_lim_Row (fun d => lim_Row k d.1 d.2.1) pk_lim_Row nm args h)
theorem lim_Row_ev (k : Nat) (d : AD as_lim_Row) : evF E_lim_Row A_lim_Row k 1000 0 Proofs.Try.f27 (absArgs as_lim_Row d).1 (absArgs as_lim_Row d).2 (outM rs_lim_Row up_lim_Row) = lim_Row k d.1 d.2.1 := by
  obtain ⟨_, _, _⟩ := d
  kernel_rfl
theorem R_lim_Row_ok : EntryOK Proofs.Try.prog R_lim_Row := fun k _ _ _ _ _ hy =>
  entry_sound (unpack := up_lim_Row) (A := A_lim_Row) (k := k) (pre := 1000) (na := 0) (E := E_lim_Row) E_lim_Row_ok E_lim_Row_local mixed_orders (f := 27) (fn := Proofs.Try.f27) (by kernel_rfl) (body_loops (loopsOK_of (n := 1) (by kernel_rfl) fun i hi => match i, hi with | 0, _ => ⟨L_lim_Row_L0, by kernel_rfl, lim_Row_L0_ok⟩ | i + 1, hi => absurd hi (by omega))) (enters (fn := Proofs.Try.f27) (by kernel_rfl) (by kernel_rfl) (by kernel_rfl)) (fun _ => rfl) (lim_Row_ev k) hy
theorem R_lim_Row_local : EntryLocal R_lim_Row.2 := entry_local (S := fun k (d : AD as_lim_Row) => lim_Row k d.1 d.2.1)

/-! ### giro/lim.Square -/
noncomputable def E_lim_Square : Env := ⟨Proofs.Try.prog, fun _ => false, sumsOf [R_lim_isSize, R_lim_Row]⟩
def I_lim_Square_L0 : Spec := ⟨[(0, .c (.int .i64)), (1, .c (.int .i64)), (5, .c (.lit (.osl 1001000 none))), (13, .c (.int .i64)), (14, .c (.int .i64))], [.mat], []⟩
def O_lim_Square_L0 : List (Ex × Spec) := [(.exit 0, ⟨[(5, .c (.lit (.osl 1001000 none)))], [.mat], []⟩)]
def T_lim_Square_L0 : OutD O_lim_Square_L0 → List (List Int) := fun d => d.2.1
def e_lim_Square_L0 (base : Nat) (x : List (List Int)) (R : Type) (K : Ex → St → Option R) : Option R := K (.exit 0) (stOf base ⟨[(5, .c (.lit (.osl 1001000 none)))], [.mat], []⟩ (((), ()), (x, ())))
def L_lim_Square_L0 : LoopSum := ⟨I_lim_Square_L0, O_lim_Square_L0, List (List Int), fun k d => lim_Square_L0 k k d.1.1.1 d.1.2.1.1 d.1.2.2.2.1.1 d.1.2.2.2.2.1.1 d.2.1, e_lim_Square_L0⟩
def A_lim_Square : Notes := ⟨[11], [(5, L_lim_Square_L0)]⟩
theorem E_lim_Square_ok : EnvOK E_lim_Square := ⟨eqOK_none, sumsOf_ok (List.forall_mem_cons.2 ⟨R_lim_isSize_ok, List.forall_mem_cons.2 ⟨R_lim_Row_ok, List.forall_mem_nil _⟩⟩)⟩
theorem E_lim_Square_local : SumsLocal E_lim_Square.sums := sumsOf_local (List.forall_mem_cons.2 ⟨R_lim_isSize_local, List.forall_mem_cons.2 ⟨R_lim_Row_local, List.forall_mem_nil _⟩⟩)
theorem lim_Square_L0_step (k : Nat) (rec : Int → Int → Int → Int → List (List Int) → Option (List (List Int))) (d : I_lim_Square_L0.den) : lim_Square_L0b k rec d.1.1.1 d.1.2.1.1 d.1.2.2.2.1.1 d.1.2.2.2.2.1.1 d.2.1 = evC E_lim_Square A_lim_Square k 1000 0 25 (loopAt (bodyOf Proofs.Try.f24) 0) (stOf (1000 + loopBase) I_lim_Square_L0 d) (roundK 1000 I_lim_Square_L0 O_lim_Square_L0 T_lim_Square_L0 fun d => rec d.1.1.1 d.1.2.1.1 d.1.2.2.2.1.1 d.1.2.2.2.2.1.1 d.2.1) := by
  obtain ⟨⟨⟨_, _⟩, ⟨_, _⟩, _, ⟨_, _⟩, ⟨_, _⟩, _⟩, ⟨_, _⟩⟩ := d
  kernel_rfl
theorem lim_Square_L0_ok : LoopOK Proofs.Try.prog 1000 0 25 (loopAt (bodyOf Proofs.Try.f24) 0) L_lim_Square_L0 :=
  loop_sound (A := A_lim_Square) (inS := I_lim_Square_L0) (outs := O_lim_Square_L0) E_lim_Square_ok E_lim_Square_local mixed_orders (loopsOK_none (by kernel_rfl)) T_lim_Square_L0 e_lim_Square_L0 (fun _ _ _ => rfl) (fun k n d => lim_Square_L0 k n d.1.1.1 d.1.2.1.1 d.1.2.2.2.1.1 d.1.2.2.2.2.1.1 d.2.1) (fun _ _ => rfl) (fun k n d => lim_Square_L0_step k (lim_Square_L0 k n) d)
def as_lim_Square : List AS := [.c (.int .i64), .c (.int .i64)]
def rs_lim_Square : RS := .c (.mat)
def pk_lim_Square : List (List Int) → RL rs_lim_Square.cells := fun x => (x, ())
def up_lim_Square : RL rs_lim_Square.cells → List (List Int) := fun d => d.1
def R_lim_Square : Nat × Entry := (24, fun k nm args h => entry as_lim_Square rs_lim_Square (fun d => lim_Square k d.1 d.2.1) pk_lim_Square nm args h)
theorem lim_Square_ev (k : Nat) (d : AD as_lim_Square) : evF E_lim_Square A_lim_Square k 1000 0 Proofs.Try.f24 (absArgs as_lim_Square d).1 (absArgs as_lim_Square d).2 (outM rs_lim_Square up_lim_Square) = lim_Square k d.1 d.2.1 := by
  obtain ⟨_, _, _⟩ := d
  kernel_rfl
theorem R_lim_Square_ok : EntryOK Proofs.Try.prog R_lim_Square := fun k _ _ _ _ _ hy =>
  entry_sound (unpack := up_lim_Square) (A := A_lim_Square) (k := k) (pre := 1000) (na := 0) (E := E_lim_Square) E_lim_Square_ok E_lim_Square_local mixed_orders (f := 24) (fn := Proofs.Try.f24) (by kernel_rfl) (body_loops (loopsOK_of (n := 1) (by kernel_rfl) fun i hi => match i, hi with | 0, _ => ⟨L_lim_Square_L0, by kernel_rfl, lim_Square_L0_ok⟩ | i + 1, hi => absurd hi (by omega))) (enters (fn := Proofs.Try.f24) (by kernel_rfl) (by kernel_rfl) (by kernel_rfl)) (fun _ => rfl) (lim_Square_ev k) hy
theorem R_lim_Square_local : EntryLocal R_lim_Square.2 := entry_local (S := fun k (d : AD as_lim_Square) => lim_Square k d.1 d.2.1)

/-! ### giro/acct.Is -/
noncomputable def E_acct_Is : Env := ⟨Proofs.Try.prog, fun _ => false, sumsOf []⟩
def A_acct_Is : Notes := ⟨[], []⟩
theorem E_acct_Is_ok : EnvOK E_acct_Is := ⟨eqOK_none, sumsOf_ok (List.forall_mem_nil _)⟩
theorem E_acct_Is_local : SumsLocal E_acct_Is.sums := sumsOf_local (List.forall_mem_nil _)
def as_acct_Is : List AS := [.agg [.int .i64, .int .i64, .int .i64]]
def rs_acct_Is : RS := .c (.bool)
def pk_acct_Is : Bool → RL rs_acct_Is.cells := fun x => (x, ())
def up_acct_Is : RL rs_acct_Is.cells → Bool := fun d => d.1
def R_acct_Is : Nat × Entry := (87, fun k nm args h => entry as_acct_Is rs_acct_Is (fun d => acct_Is k d.1 d.2.1 d.2.2.1) pk_acct_Is nm args h)
theorem acct_Is_ev (k : Nat) (d : AD as_acct_Is) : evF E_acct_Is A_acct_Is k 1000 0 Proofs.Try.f87 (absArgs as_acct_Is d).1 (absArgs as_acct_Is d).2 (outM rs_acct_Is up_acct_Is) = acct_Is k d.1 d.2.1 d.2.2.1 := by
  obtain ⟨_, _, _, _⟩ := d
  kernel_rfl
theorem R_acct_Is_ok : EntryOK Proofs.Try.prog R_acct_Is := fun k _ _ _ _ _ hy =>
  entry_sound (unpack := up_acct_Is) (A := A_acct_Is) (k := k) (pre := 1000) (na := 0) (E := E_acct_Is) E_acct_Is_ok E_acct_Is_local mixed_orders (f := 87) (fn := Proofs.Try.f87) (by kernel_rfl) (body_loops (loopsOK_none (by kernel_rfl))) (enters (fn := Proofs.Try.f87) (by kernel_rfl) (by kernel_rfl) (by kernel_rfl)) (fun _ => rfl) (acct_Is_ev k) hy
theorem R_acct_Is_local : EntryLocal R_acct_Is.2 := entry_local (S := fun k (d : AD as_acct_Is) => acct_Is k d.1 d.2.1 d.2.2.1)

/-! ### giro/lim.Is$1 -/
noncomputable def E_lim_Is_fn1 : Env := ⟨Proofs.Try.prog, fun _ => false, sumsOf [R_acct_Is]⟩
def A_lim_Is_fn1 : Notes := ⟨[], []⟩
theorem E_lim_Is_fn1_ok : EnvOK E_lim_Is_fn1 := ⟨eqOK_none, sumsOf_ok (List.forall_mem_cons.2 ⟨R_acct_Is_ok, List.forall_mem_nil _⟩)⟩
theorem E_lim_Is_fn1_local : SumsLocal E_lim_Is_fn1.sums := sumsOf_local (List.forall_mem_cons.2 ⟨R_acct_Is_local, List.forall_mem_nil _⟩)
def as_lim_Is_fn1 : List AS := [.agg [.int .i64, .int .i64, .int .i64]]
def rs_lim_Is_fn1 : RS := .c (.bool)
def pk_lim_Is_fn1 : Bool → RL rs_lim_Is_fn1.cells := fun x => (x, ())
def up_lim_Is_fn1 : RL rs_lim_Is_fn1.cells → Bool := fun d => d.1
def R_lim_Is_fn1 : Nat × Entry := (86, fun k nm args h => entry as_lim_Is_fn1 rs_lim_Is_fn1 (fun d => lim_Is_fn1 k d.1 d.2.1 d.2.2.1) pk_lim_Is_fn1 nm args h)
theorem lim_Is_fn1_ev (k : Nat) (d : AD as_lim_Is_fn1) : evF E_lim_Is_fn1 A_lim_Is_fn1 k 1000 0 Proofs.Try.f86 (absArgs as_lim_Is_fn1 d).1 (absArgs as_lim_Is_fn1 d).2 (outM rs_lim_Is_fn1 up_lim_Is_fn1) = lim_Is_fn1 k d.1 d.2.1 d.2.2.1 := by
  obtain ⟨_, _, _, _⟩ := d
  kernel_rfl
theorem R_lim_Is_fn1_ok : EntryOK Proofs.Try.prog R_lim_Is_fn1 := fun k _ _ _ _ _ hy =>
  entry_sound (unpack := up_lim_Is_fn1) (A := A_lim_Is_fn1) (k := k) (pre := 1000) (na := 0) (E := E_lim_Is_fn1) E_lim_Is_fn1_ok E_lim_Is_fn1_local mixed_orders (f := 86) (fn := Proofs.Try.f86) (by kernel_rfl) (body_loops (loopsOK_none (by kernel_rfl))) (enters (fn := Proofs.Try.f86) (by kernel_rfl) (by kernel_rfl) (by kernel_rfl)) (fun _ => rfl) (lim_Is_fn1_ev k) hy
theorem R_lim_Is_fn1_local : EntryLocal R_lim_Is_fn1.2 := entry_local (S := fun k (d : AD as_lim_Is_fn1) => lim_Is_fn1 k d.1 d.2.1 d.2.2.1)

/-! ### slices.IndexFunc[[]giro/api.Acct,giro/api.Acct] -/
noncomputable def E_slices_IndexFunc_Acct__lim_Is_fn1 : Env := ⟨Proofs.Try.prog, fun _ => false, sumsOf [R_lim_Is_fn1]⟩
def I_slices_IndexFunc_Acct__lim_Is_fn1_L0 : Spec := ⟨[(0, .c (.dat false (.pair (.int .i64) (.pair (.int .i64) (.int .i64))))), (1, .c (.lit (.fn 86 []))), (7, .c (.int .i64)), (8, .c (.int .i64))], [], []⟩
def O_slices_IndexFunc_Acct__lim_Is_fn1_L0 : List (Ex × Spec) := [(.exit 0, ⟨[], [], []⟩), (.ret, ⟨[(4, .c (.int .i64))], [], []⟩)]
def T_slices_IndexFunc_Acct__lim_Is_fn1_L0 : OutD O_slices_IndexFunc_Acct__lim_Is_fn1_L0 → Unit ⊕ Int
 | .inl d => .inl ()
 | .inr d => .inr d.1.1.1
def e_slices_IndexFunc_Acct__lim_Is_fn1_L0 (base : Nat) (x : Unit ⊕ Int) (R : Type) (K : Ex → St → Option R) : Option R := match x with
 | .inl x => K (.exit 0) (stOf base ⟨[], [], []⟩ ((), ()))
 | .inr x => K .ret (stOf base ⟨[(4, .c (.int .i64))], [], []⟩ (((x, ()), ()), ()))
def L_slices_IndexFunc_Acct__lim_Is_fn1_L0 : LoopSum := ⟨I_slices_IndexFunc_Acct__lim_Is_fn1_L0, O_slices_IndexFunc_Acct__lim_Is_fn1_L0, Unit ⊕ Int, fun k d => slices_IndexFunc_Acct__lim_Is_fn1_L0 k k d.1.1.1 d.1.2.2.1.1 d.1.2.2.2.1.1, e_slices_IndexFunc_Acct__lim_Is_fn1_L0⟩
def A_slices_IndexFunc_Acct__lim_Is_fn1 : Notes := ⟨[], [(2, L_slices_IndexFunc_Acct__lim_Is_fn1_L0)]⟩
theorem E_slices_IndexFunc_Acct__lim_Is_fn1_ok : EnvOK E_slices_IndexFunc_Acct__lim_Is_fn1 := ⟨eqOK_none, sumsOf_ok (List.forall_mem_cons.2 ⟨R_lim_Is_fn1_ok, List.forall_mem_nil _⟩)⟩
theorem E_slices_IndexFunc_Acct__lim_Is_fn1_local : SumsLocal E_slices_IndexFunc_Acct__lim_Is_fn1.sums := sumsOf_local (List.forall_mem_cons.2 ⟨R_lim_Is_fn1_local, List.forall_mem_nil _⟩)
theorem slices_IndexFunc_Acct__lim_Is_fn1_L0_step (k : Nat) (rec : List (Int × Int × Int) → Int → Int → Option (Unit ⊕ Int)) (d : I_slices_IndexFunc_Acct__lim_Is_fn1_L0.den) : slices_IndexFunc_Acct__lim_Is_fn1_L0b k rec d.1.1.1 d.1.2.2.1.1 d.1.2.2.2.1.1 = evC E_slices_IndexFunc_Acct__lim_Is_fn1 A_slices_IndexFunc_Acct__lim_Is_fn1 k 1000 0 19 (loopAt (bodyOf Proofs.Try.f110) 0) (stOf (1000 + loopBase) I_slices_IndexFunc_Acct__lim_Is_fn1_L0 d) (roundK 1000 I_slices_IndexFunc_Acct__lim_Is_fn1_L0 O_slices_IndexFunc_Acct__lim_Is_fn1_L0 T_slices_IndexFunc_Acct__lim_Is_fn1_L0 fun d => rec d.1.1.1 d.1.2.2.1.1 d.1.2.2.2.1.1) := by
  obtain ⟨⟨⟨_, _⟩, _, ⟨_, _⟩, ⟨_, _⟩, _⟩, _⟩ := d
  kernel_rfl
theorem slices_IndexFunc_Acct__lim_Is_fn1_L0_ok : LoopOK Proofs.Try.prog 1000 0 19 (loopAt (bodyOf Proofs.Try.f110) 0) L_slices_IndexFunc_Acct__lim_Is_fn1_L0 :=
  loop_sound (A := A_slices_IndexFunc_Acct__lim_Is_fn1) (inS := I_slices_IndexFunc_Acct__lim_Is_fn1_L0) (outs := O_slices_IndexFunc_Acct__lim_Is_fn1_L0) E_slices_IndexFunc_Acct__lim_Is_fn1_ok E_slices_IndexFunc_Acct__lim_Is_fn1_local mixed_orders (loopsOK_none (by kernel_rfl)) T_slices_IndexFunc_Acct__lim_Is_fn1_L0 e_slices_IndexFunc_Acct__lim_Is_fn1_L0 (by intro o R K; rcases o with o | o <;> rfl) (fun k n d => slices_IndexFunc_Acct__lim_Is_fn1_L0 k n d.1.1.1 d.1.2.2.1.1 d.1.2.2.2.1.1) (fun _ _ => rfl) (fun k n d => slices_IndexFunc_Acct__lim_Is_fn1_L0_step k (slices_IndexFunc_Acct__lim_Is_fn1_L0 k n) d)
def as_slices_IndexFunc_Acct__lim_Is_fn1 : List AS := [.c (.dat false (.pair (.int .i64) (.pair (.int .i64) (.int .i64)))), .c (.fn 86)]
def rs_slices_IndexFunc_Acct__lim_Is_fn1 : RS := .c (.int .i64)
def pk_slices_IndexFunc_Acct__lim_Is_fn1 : Int → RL rs_slices_IndexFunc_Acct__lim_Is_fn1.cells := fun x => (x, ())
def up_slices_IndexFunc_Acct__lim_Is_fn1 : RL rs_slices_IndexFunc_Acct__lim_Is_fn1.cells → Int := fun d => d.1
def R_slices_IndexFunc_Acct__lim_Is_fn1 : Nat × Entry := (110, fun k nm args h => entry as_slices_IndexFunc_Acct__lim_Is_fn1 rs_slices_IndexFunc_Acct__lim_Is_fn1 (fun d => slices_IndexFunc_Acct__lim_Is_fn1 k d.1) pk_slices_IndexFunc_Acct__lim_Is_fn1 nm args h)
theorem slices_IndexFunc_Acct__lim_Is_fn1_ev (k : Nat) (d : AD as_slices_IndexFunc_Acct__lim_Is_fn1) : evF E_slices_IndexFunc_Acct__lim_Is_fn1 A_slices_IndexFunc_Acct__lim_Is_fn1 k 1000 0 Proofs.Try.f110 (absArgs as_slices_IndexFunc_Acct__lim_Is_fn1 d).1 (absArgs as_slices_IndexFunc_Acct__lim_Is_fn1 d).2 (outM rs_slices_IndexFunc_Acct__lim_Is_fn1 up_slices_IndexFunc_Acct__lim_Is_fn1) = slices_IndexFunc_Acct__lim_Is_fn1 k d.1 := by
  obtain ⟨_, _, _⟩ := d
  kernel_rfl
theorem R_slices_IndexFunc_Acct__lim_Is_fn1_ok : EntryOK Proofs.Try.prog R_slices_IndexFunc_Acct__lim_Is_fn1 := fun k _ _ _ _ _ hy =>
  entry_sound (unpack := up_slices_IndexFunc_Acct__lim_Is_fn1) (A := A_slices_IndexFunc_Acct__lim_Is_fn1) (k := k) (pre := 1000) (na := 0) (E := E_slices_IndexFunc_Acct__lim_Is_fn1) E_slices_IndexFunc_Acct__lim_Is_fn1_ok E_slices_IndexFunc_Acct__lim_Is_fn1_local mixed_orders (f := 110) (fn := Proofs.Try.f110) (by kernel_rfl) (body_loops (loopsOK_of (n := 1) (by kernel_rfl) fun i hi => match i, hi with | 0, _ => ⟨L_slices_IndexFunc_Acct__lim_Is_fn1_L0, by kernel_rfl, slices_IndexFunc_Acct__lim_Is_fn1_L0_ok⟩ | i + 1, hi => absurd hi (by omega))) (enters (fn := Proofs.Try.f110) (by kernel_rfl) (by kernel_rfl) (by kernel_rfl)) (fun _ => rfl) (slices_IndexFunc_Acct__lim_Is_fn1_ev k) hy
theorem R_slices_IndexFunc_Acct__lim_Is_fn1_local : EntryLocal R_slices_IndexFunc_Acct__lim_Is_fn1.2 := entry_local (S := fun k (d : AD as_slices_IndexFunc_Acct__lim_Is_fn1) => slices_IndexFunc_Acct__lim_Is_fn1 k d.1)

/-! ### slices.ContainsFunc[[]giro/api.Acct,giro/api.Acct] -/
noncomputable def E_slices_ContainsFunc_Acct__lim_Is_fn1 : Env := ⟨Proofs.Try.prog, fun _ => false, sumsOf [R_slices_IndexFunc_Acct__lim_Is_fn1]⟩
def A_slices_ContainsFunc_Acct__lim_Is_fn1 : Notes := ⟨[], []⟩
theorem E_slices_ContainsFunc_Acct__lim_Is_fn1_ok : EnvOK E_slices_ContainsFunc_Acct__lim_Is_fn1 := ⟨eqOK_none, sumsOf_ok (List.forall_mem_cons.2 ⟨R_slices_IndexFunc_Acct__lim_Is_fn1_ok, List.forall_mem_nil _⟩)⟩
theorem E_slices_ContainsFunc_Acct__lim_Is_fn1_local : SumsLocal E_slices_ContainsFunc_Acct__lim_Is_fn1.sums := sumsOf_local (List.forall_mem_cons.2 ⟨R_slices_IndexFunc_Acct__lim_Is_fn1_local, List.forall_mem_nil _⟩)
def as_slices_ContainsFunc_Acct__lim_Is_fn1 : List AS := [.c (.dat false (.pair (.int .i64) (.pair (.int .i64) (.int .i64)))), .c (.fn 86)]
def rs_slices_ContainsFunc_Acct__lim_Is_fn1 : RS := .c (.bool)
def pk_slices_ContainsFunc_Acct__lim_Is_fn1 : Bool → RL rs_slices_ContainsFunc_Acct__lim_Is_fn1.cells := fun x => (x, ())
def up_slices_ContainsFunc_Acct__lim_Is_fn1 : RL rs_slices_ContainsFunc_Acct__lim_Is_fn1.cells → Bool := fun d => d.1
def R_slices_ContainsFunc_Acct__lim_Is_fn1 : Nat × Entry := (88, fun k nm args h => entry as_slices_ContainsFunc_Acct__lim_Is_fn1 rs_slices_ContainsFunc_Acct__lim_Is_fn1 (fun d => slices_ContainsFunc_Acct__lim_Is_fn1 k d.1) pk_slices_ContainsFunc_Acct__lim_Is_fn1 nm args h)
theorem slices_ContainsFunc_Acct__lim_Is_fn1_ev (k : Nat) (d : AD as_slices_ContainsFunc_Acct__lim_Is_fn1) : evF E_slices_ContainsFunc_Acct__lim_Is_fn1 A_slices_ContainsFunc_Acct__lim_Is_fn1 k 1000 0 Proofs.Try.f88 (absArgs as_slices_ContainsFunc_Acct__lim_Is_fn1 d).1 (absArgs as_slices_ContainsFunc_Acct__lim_Is_fn1 d).2 (outM rs_slices_ContainsFunc_Acct__lim_Is_fn1 up_slices_ContainsFunc_Acct__lim_Is_fn1) = slices_ContainsFunc_Acct__lim_Is_fn1 k d.1 := by
  obtain ⟨_, _, _⟩ := d
  kernel_rfl
theorem R_slices_ContainsFunc_Acct__lim_Is_fn1_ok : EntryOK Proofs.Try.prog R_slices_ContainsFunc_Acct__lim_Is_fn1 := fun k _ _ _ _ _ hy =>
  entry_sound (unpack := up_slices_ContainsFunc_Acct__lim_Is_fn1) (A := A_slices_ContainsFunc_Acct__lim_Is_fn1) (k := k) (pre := 1000) (na := 0) (E := E_slices_ContainsFunc_Acct__lim_Is_fn1) E_slices_ContainsFunc_Acct__lim_Is_fn1_ok E_slices_ContainsFunc_Acct__lim_Is_fn1_local mixed_orders (f := 88) (fn := Proofs.Try.f88) (by kernel_rfl) (body_loops (loopsOK_none (by kernel_rfl))) (enters (fn := Proofs.Try.f88) (by kernel_rfl) (by kernel_rfl) (by kernel_rfl)) (fun _ => rfl) (slices_ContainsFunc_Acct__lim_Is_fn1_ev k) hy
theorem R_slices_ContainsFunc_Acct__lim_Is_fn1_local : EntryLocal R_slices_ContainsFunc_Acct__lim_Is_fn1.2 := entry_local (S := fun k (d : AD as_slices_ContainsFunc_Acct__lim_Is_fn1) => slices_ContainsFunc_Acct__lim_Is_fn1 k d.1)

/-! ### giro/lim.isLimit -/
noncomputable def E_lim_isLimit : Env := ⟨Proofs.Try.prog, fun _ => false, sumsOf []⟩
def A_lim_isLimit : Notes := ⟨[], []⟩
theorem E_lim_isLimit_ok : EnvOK E_lim_isLimit := ⟨eqOK_none, sumsOf_ok (List.forall_mem_nil _)⟩
theorem E_lim_isLimit_local : SumsLocal E_lim_isLimit.sums := sumsOf_local (List.forall_mem_nil _)
def as_lim_isLimit : List AS := [.c (.int .i64)]
def rs_lim_isLimit : RS := .c (.bool)
def pk_lim_isLimit : Bool → RL rs_lim_isLimit.cells := fun x => (x, ())
def up_lim_isLimit : RL rs_lim_isLimit.cells → Bool := fun d => d.1
def R_lim_isLimit : Nat × Entry := (90, fun k nm args h => entry as_lim_isLimit rs_lim_isLimit (fun d => lim_isLimit k d.1) pk_lim_isLimit nm args h)
theorem lim_isLimit_ev (k : Nat) (d : AD as_lim_isLimit) : evF E_lim_isLimit A_lim_isLimit k 1000 0 Proofs.Try.f90 (absArgs as_lim_isLimit d).1 (absArgs as_lim_isLimit d).2 (outM rs_lim_isLimit up_lim_isLimit) = lim_isLimit k d.1 := by
  obtain ⟨_, _⟩ := d
  kernel_rfl
theorem R_lim_isLimit_ok : EntryOK Proofs.Try.prog R_lim_isLimit := fun k _ _ _ _ _ hy =>
  entry_sound (unpack := up_lim_isLimit) (A := A_lim_isLimit) (k := k) (pre := 1000) (na := 0) (E := E_lim_isLimit) E_lim_isLimit_ok E_lim_isLimit_local mixed_orders (f := 90) (fn := Proofs.Try.f90) (by kernel_rfl) (body_loops (loopsOK_none (by kernel_rfl))) (enters (fn := Proofs.Try.f90) (by kernel_rfl) (by kernel_rfl) (by kernel_rfl)) (fun _ => rfl) (lim_isLimit_ev k) hy
theorem R_lim_isLimit_local : EntryLocal R_lim_isLimit.2 := entry_local (S := fun k (d : AD as_lim_isLimit) => lim_isLimit k d.1)

/-! ### giro/lim.isRow$1 -/
noncomputable def E_lim_isRow_fn1__lim_isLimit : Env := ⟨Proofs.Try.prog, fun _ => false, sumsOf [R_lim_isLimit]⟩
def A_lim_isRow_fn1__lim_isLimit : Notes := ⟨[], []⟩
theorem E_lim_isRow_fn1__lim_isLimit_ok : EnvOK E_lim_isRow_fn1__lim_isLimit := ⟨eqOK_none, sumsOf_ok (List.forall_mem_cons.2 ⟨R_lim_isLimit_ok, List.forall_mem_nil _⟩)⟩
theorem E_lim_isRow_fn1__lim_isLimit_local : SumsLocal E_lim_isRow_fn1__lim_isLimit.sums := sumsOf_local (List.forall_mem_cons.2 ⟨R_lim_isLimit_local, List.forall_mem_nil _⟩)
def as_lim_isRow_fn1__lim_isLimit : List AS := [.c (.int .i64), .ptr [.fn 90]]
def rs_lim_isRow_fn1__lim_isLimit : RS := .c (.bool)
def pk_lim_isRow_fn1__lim_isLimit : Bool → RL rs_lim_isRow_fn1__lim_isLimit.cells := fun x => (x, ())
def up_lim_isRow_fn1__lim_isLimit : RL rs_lim_isRow_fn1__lim_isLimit.cells → Bool := fun d => d.1
def R_lim_isRow_fn1__lim_isLimit : Nat × Entry := (112, fun k nm args h => entry as_lim_isRow_fn1__lim_isLimit rs_lim_isRow_fn1__lim_isLimit (fun d => lim_isRow_fn1__lim_isLimit k d.1) pk_lim_isRow_fn1__lim_isLimit nm args h)
theorem lim_isRow_fn1__lim_isLimit_ev (k : Nat) (d : AD as_lim_isRow_fn1__lim_isLimit) : evF E_lim_isRow_fn1__lim_isLimit A_lim_isRow_fn1__lim_isLimit k 1000 0 Proofs.Try.f112 (absArgs as_lim_isRow_fn1__lim_isLimit d).1 (absArgs as_lim_isRow_fn1__lim_isLimit d).2 (outM rs_lim_isRow_fn1__lim_isLimit up_lim_isRow_fn1__lim_isLimit) = lim_isRow_fn1__lim_isLimit k d.1 := by
  obtain ⟨_, _, _⟩ := d
  kernel_rfl
theorem R_lim_isRow_fn1__lim_isLimit_ok : EntryOK Proofs.Try.prog R_lim_isRow_fn1__lim_isLimit := fun k _ _ _ _ _ hy =>
  entry_sound (unpack := up_lim_isRow_fn1__lim_isLimit) (A := A_lim_isRow_fn1__lim_isLimit) (k := k) (pre := 1000) (na := 0) (E := E_lim_isRow_fn1__lim_isLimit) E_lim_isRow_fn1__lim_isLimit_ok E_lim_isRow_fn1__lim_isLimit_local mixed_orders (f := 112) (fn := Proofs.Try.f112) (by kernel_rfl) (body_loops (loopsOK_none (by kernel_rfl))) (enters (fn := Proofs.Try.f112) (by kernel_rfl) (by kernel_rfl) (by kernel_rfl)) (fun _ => rfl) (lim_isRow_fn1__lim_isLimit_ev k) hy
theorem R_lim_isRow_fn1__lim_isLimit_local : EntryLocal R_lim_isRow_fn1__lim_isLimit.2 := entry_local (S := fun k (d : AD as_lim_isRow_fn1__lim_isLimit) => lim_isRow_fn1__lim_isLimit k d.1)

/-! ### slices.IndexFunc[[]int64,int64] -/
noncomputable def E_slices_IndexFunc_int64__lim_isRow_fn1__lim_isLimit : Env := ⟨Proofs.Try.prog, fun _ => false, sumsOf [R_lim_isRow_fn1__lim_isLimit]⟩
def I_slices_IndexFunc_int64__lim_isRow_fn1__lim_isLimit_L0 : Spec := ⟨[(0, .c (.dat false (.int .i64))), (1, .c (.lit (.fn 112 [1001000]))), (7, .c (.int .i64)), (8, .c (.int .i64))], [.robox [.lit (.fn 90 [])]], []⟩
def O_slices_IndexFunc_int64__lim_isRow_fn1__lim_isLimit_L0 : List (Ex × Spec) := [(.exit 0, ⟨[], [], []⟩), (.ret, ⟨[(4, .c (.int .i64))], [], []⟩)]
def T_slices_IndexFunc_int64__lim_isRow_fn1__lim_isLimit_L0 : OutD O_slices_IndexFunc_int64__lim_isRow_fn1__lim_isLimit_L0 → Unit ⊕ Int
 | .inl d => .inl ()
 | .inr d => .inr d.1.1.1
def e_slices_IndexFunc_int64__lim_isRow_fn1__lim_isLimit_L0 (base : Nat) (x : Unit ⊕ Int) (R : Type) (K : Ex → St → Option R) : Option R := match x with
 | .inl x => K (.exit 0) (stOf base ⟨[], [], []⟩ ((), ()))
 | .inr x => K .ret (stOf base ⟨[(4, .c (.int .i64))], [], []⟩ (((x, ()), ()), ()))
def L_slices_IndexFunc_int64__lim_isRow_fn1__lim_isLimit_L0 : LoopSum := ⟨I_slices_IndexFunc_int64__lim_isRow_fn1__lim_isLimit_L0, O_slices_IndexFunc_int64__lim_isRow_fn1__lim_isLimit_L0, Unit ⊕ Int, fun k d => slices_IndexFunc_int64__lim_isRow_fn1__lim_isLimit_L0 k k d.1.1.1 d.1.2.2.1.1 d.1.2.2.2.1.1, e_slices_IndexFunc_int64__lim_isRow_fn1__lim_isLimit_L0⟩
def A_slices_IndexFunc_int64__lim_isRow_fn1__lim_isLimit : Notes := ⟨[], [(2, L_slices_IndexFunc_int64__lim_isRow_fn1__lim_isLimit_L0)]⟩
theorem E_slices_IndexFunc_int64__lim_isRow_fn1__lim_isLimit_ok : EnvOK E_slices_IndexFunc_int64__lim_isRow_fn1__lim_isLimit := ⟨eqOK_none, sumsOf_ok (List.forall_mem_cons.2 ⟨R_lim_isRow_fn1__lim_isLimit_ok, List.forall_mem_nil _⟩)⟩
theorem E_slices_IndexFunc_int64__lim_isRow_fn1__lim_isLimit_local : SumsLocal E_slices_IndexFunc_int64__lim_isRow_fn1__lim_isLimit.sums := sumsOf_local (List.forall_mem_cons.2 ⟨R_lim_isRow_fn1__lim_isLimit_local, List.forall_mem_nil _⟩)
theorem slices_IndexFunc_int64__lim_isRow_fn1__lim_isLimit_L0_step (k : Nat) (rec : List Int → Int → Int → Option (Unit ⊕ Int)) (d : I_slices_IndexFunc_int64__lim_isRow_fn1__lim_isLimit_L0.den) : slices_IndexFunc_int64__lim_isRow_fn1__lim_isLimit_L0b k rec d.1.1.1 d.1.2.2.1.1 d.1.2.2.2.1.1 = evC E_slices_IndexFunc_int64__lim_isRow_fn1__lim_isLimit A_slices_IndexFunc_int64__lim_isRow_fn1__lim_isLimit k 1000 0 19 (loopAt (bodyOf Proofs.Try.f129) 0) (stOf (1000 + loopBase) I_slices_IndexFunc_int64__lim_isRow_fn1__lim_isLimit_L0 d) (roundK 1000 I_slices_IndexFunc_int64__lim_isRow_fn1__lim_isLimit_L0 O_slices_IndexFunc_int64__lim_isRow_fn1__lim_isLimit_L0 T_slices_IndexFunc_int64__lim_isRow_fn1__lim_isLimit_L0 fun d => rec d.1.1.1 d.1.2.2.1.1 d.1.2.2.2.1.1) := by
  obtain ⟨⟨⟨_, _⟩, _, ⟨_, _⟩, ⟨_, _⟩, _⟩, ⟨_, _⟩⟩ := d
  kernel_rfl
theorem slices_IndexFunc_int64__lim_isRow_fn1__lim_isLimit_L0_ok : LoopOK Proofs.Try.prog 1000 0 19 (loopAt (bodyOf Proofs.Try.f129) 0) L_slices_IndexFunc_int64__lim_isRow_fn1__lim_isLimit_L0 :=
  loop_sound (A := A_slices_IndexFunc_int64__lim_isRow_fn1__lim_isLimit) (inS := I_slices_IndexFunc_int64__lim_isRow_fn1__lim_isLimit_L0) (outs := O_slices_IndexFunc_int64__lim_isRow_fn1__lim_isLimit_L0) E_slices_IndexFunc_int64__lim_isRow_fn1__lim_isLimit_ok E_slices_IndexFunc_int64__lim_isRow_fn1__lim_isLimit_local mixed_orders (loopsOK_none (by kernel_rfl)) T_slices_IndexFunc_int64__lim_isRow_fn1__lim_isLimit_L0 e_slices_IndexFunc_int64__lim_isRow_fn1__lim_isLimit_L0 (by intro o R K; rcases o with o | o <;> rfl) (fun k n d => slices_IndexFunc_int64__lim_isRow_fn1__lim_isLimit_L0 k n d.1.1.1 d.1.2.2.1.1 d.1.2.2.2.1.1) (fun _ _ => rfl) (fun k n d => slices_IndexFunc_int64__lim_isRow_fn1__lim_isLimit_L0_step k (slices_IndexFunc_int64__lim_isRow_fn1__lim_isLimit_L0 k n) d)
def as_slices_IndexFunc_int64__lim_isRow_fn1__lim_isLimit : List AS := [.c (.dat false (.int .i64)), .fn 112 [[.fn 90]]]
def rs_slices_IndexFunc_int64__lim_isRow_fn1__lim_isLimit : RS := .c (.int .i64)
def pk_slices_IndexFunc_int64__lim_isRow_fn1__lim_isLimit : Int → RL rs_slices_IndexFunc_int64__lim_isRow_fn1__lim_isLimit.cells := fun x => (x, ())
def up_slices_IndexFunc_int64__lim_isRow_fn1__lim_isLimit : RL rs_slices_IndexFunc_int64__lim_isRow_fn1__lim_isLimit.cells → Int := fun d => d.1
def R_slices_IndexFunc_int64__lim_isRow_fn1__lim_isLimit : Nat × Entry := (129, fun k nm args h => entry as_slices_IndexFunc_int64__lim_isRow_fn1__lim_isLimit rs_slices_IndexFunc_int64__lim_isRow_fn1__lim_isLimit (fun d => slices_IndexFunc_int64__lim_isRow_fn1__lim_isLimit k d.1) pk_slices_IndexFunc_int64__lim_isRow_fn1__lim_isLimit nm args h)
theorem slices_IndexFunc_int64__lim_isRow_fn1__lim_isLimit_ev (k : Nat) (d : AD as_slices_IndexFunc_int64__lim_isRow_fn1__lim_isLimit) : evF E_slices_IndexFunc_int64__lim_isRow_fn1__lim_isLimit A_slices_IndexFunc_int64__lim_isRow_fn1__lim_isLimit k 1000 0 Proofs.Try.f129 (absArgs as_slices_IndexFunc_int64__lim_isRow_fn1__lim_isLimit d).1 (absArgs as_slices_IndexFunc_int64__lim_isRow_fn1__lim_isLimit d).2 (outM rs_slices_IndexFunc_int64__lim_isRow_fn1__lim_isLimit up_slices_IndexFunc_int64__lim_isRow_fn1__lim_isLimit) = slices_IndexFunc_int64__lim_isRow_fn1__lim_isLimit k d.1 := by
  obtain ⟨_, _, _⟩ := d
  kernel_rfl
theorem R_slices_IndexFunc_int64__lim_isRow_fn1__lim_isLimit_ok : EntryOK Proofs.Try.prog R_slices_IndexFunc_int64__lim_isRow_fn1__lim_isLimit := fun k _ _ _ _ _ hy =>
  entry_sound (unpack := up_slices_IndexFunc_int64__lim_isRow_fn1__lim_isLimit) (A := A_slices_IndexFunc_int64__lim_isRow_fn1__lim_isLimit) (k := k) (pre := 1000) (na := 0) (E := E_slices_IndexFunc_int64__lim_isRow_fn1__lim_isLimit) E_slices_IndexFunc_int64__lim_isRow_fn1__lim_isLimit_ok E_slices_IndexFunc_int64__lim_isRow_fn1__lim_isLimit_local mixed_orders (f := 129) (fn := Proofs.Try.f129) (by kernel_rfl) (body_loops (loopsOK_of (n := 1) (by kernel_rfl) fun i hi => match i, hi with | 0, _ => ⟨L_slices_IndexFunc_int64__lim_isRow_fn1__lim_isLimit_L0, by kernel_rfl, slices_IndexFunc_int64__lim_isRow_fn1__lim_isLimit_L0_ok⟩ | i + 1, hi => absurd hi (by omega))) (enters (fn := Proofs.Try.f129) (by kernel_rfl) (by kernel_rfl) (by kernel_rfl)) (fun _ => rfl) (slices_IndexFunc_int64__lim_isRow_fn1__lim_isLimit_ev k) hy
theorem R_slices_IndexFunc_int64__lim_isRow_fn1__lim_isLimit_local : EntryLocal R_slices_IndexFunc_int64__lim_isRow_fn1__lim_isLimit.2 := entry_local (S := fun k (d : AD as_slices_IndexFunc_int64__lim_isRow_fn1__lim_isLimit) => slices_IndexFunc_int64__lim_isRow_fn1__lim_isLimit k d.1)

/-! ### slices.ContainsFunc[[]int64,int64] -/
noncomputable def E_slices_ContainsFunc_int64__lim_isRow_fn1__lim_isLimit : Env := ⟨Proofs.Try.prog, fun _ => false, sumsOf [R_slices_IndexFunc_int64__lim_isRow_fn1__lim_isLimit]⟩
def A_slices_ContainsFunc_int64__lim_isRow_fn1__lim_isLimit : Notes := ⟨[], []⟩
theorem E_slices_ContainsFunc_int64__lim_isRow_fn1__lim_isLimit_ok : EnvOK E_slices_ContainsFunc_int64__lim_isRow_fn1__lim_isLimit := ⟨eqOK_none, sumsOf_ok (List.forall_mem_cons.2 ⟨R_slices_IndexFunc_int64__lim_isRow_fn1__lim_isLimit_ok, List.forall_mem_nil _⟩)⟩
theorem E_slices_ContainsFunc_int64__lim_isRow_fn1__lim_isLimit_local : SumsLocal E_slices_ContainsFunc_int64__lim_isRow_fn1__lim_isLimit.sums := sumsOf_local (List.forall_mem_cons.2 ⟨R_slices_IndexFunc_int64__lim_isRow_fn1__lim_isLimit_local, List.forall_mem_nil _⟩)
def as_slices_ContainsFunc_int64__lim_isRow_fn1__lim_isLimit : List AS := [.c (.dat false (.int .i64)), .fn 112 [[.fn 90]]]
def rs_slices_ContainsFunc_int64__lim_isRow_fn1__lim_isLimit : RS := .c (.bool)
def pk_slices_ContainsFunc_int64__lim_isRow_fn1__lim_isLimit : Bool → RL rs_slices_ContainsFunc_int64__lim_isRow_fn1__lim_isLimit.cells := fun x => (x, ())
def up_slices_ContainsFunc_int64__lim_isRow_fn1__lim_isLimit : RL rs_slices_ContainsFunc_int64__lim_isRow_fn1__lim_isLimit.cells → Bool := fun d => d.1
def R_slices_ContainsFunc_int64__lim_isRow_fn1__lim_isLimit : Nat × Entry := (111, fun k nm args h => entry as_slices_ContainsFunc_int64__lim_isRow_fn1__lim_isLimit rs_slices_ContainsFunc_int64__lim_isRow_fn1__lim_isLimit (fun d => slices_ContainsFunc_int64__lim_isRow_fn1__lim_isLimit k d.1) pk_slices_ContainsFunc_int64__lim_isRow_fn1__lim_isLimit nm args h)
theorem slices_ContainsFunc_int64__lim_isRow_fn1__lim_isLimit_ev (k : Nat) (d : AD as_slices_ContainsFunc_int64__lim_isRow_fn1__lim_isLimit) : evF E_slices_ContainsFunc_int64__lim_isRow_fn1__lim_isLimit A_slices_ContainsFunc_int64__lim_isRow_fn1__lim_isLimit k 1000 0 Proofs.Try.f111 (absArgs as_slices_ContainsFunc_int64__lim_isRow_fn1__lim_isLimit d).1 (absArgs as_slices_ContainsFunc_int64__lim_isRow_fn1__lim_isLimit d).2 (outM rs_slices_ContainsFunc_int64__lim_isRow_fn1__lim_isLimit up_slices_ContainsFunc_int64__lim_isRow_fn1__lim_isLimit) = slices_ContainsFunc_int64__lim_isRow_fn1__lim_isLimit k d.1 := by
  obtain ⟨_, _, _⟩ := d
  kernel_rfl
theorem R_slices_ContainsFunc_int64__lim_isRow_fn1__lim_isLimit_ok : EntryOK Proofs.Try.prog R_slices_ContainsFunc_int64__lim_isRow_fn1__lim_isLimit := fun k _ _ _ _ _ hy =>
  entry_sound (unpack := up_slices_ContainsFunc_int64__lim_isRow_fn1__lim_isLimit) (A := A_slices_ContainsFunc_int64__lim_isRow_fn1__lim_isLimit) (k := k) (pre := 1000) (na := 0) (E := E_slices_ContainsFunc_int64__lim_isRow_fn1__lim_isLimit) E_slices_ContainsFunc_int64__lim_isRow_fn1__lim_isLimit_ok E_slices_ContainsFunc_int64__lim_isRow_fn1__lim_isLimit_local mixed_orders (f := 111) (fn := Proofs.Try.f111) (by kernel_rfl) (body_loops (loopsOK_none (by kernel_rfl))) (enters (fn := Proofs.Try.f111) (by kernel_rfl) (by kernel_rfl) (by kernel_rfl)) (fun _ => rfl) (slices_ContainsFunc_int64__lim_isRow_fn1__lim_isLimit_ev k) hy
theorem R_slices_ContainsFunc_int64__lim_isRow_fn1__lim_isLimit_local : EntryLocal R_slices_ContainsFunc_int64__lim_isRow_fn1__lim_isLimit.2 := entry_local (S := fun k (d : AD as_slices_ContainsFunc_int64__lim_isRow_fn1__lim_isLimit) => slices_ContainsFunc_int64__lim_isRow_fn1__lim_isLimit k d.1)

/-! ### giro/lim.isRow -/
noncomputable def E_lim_isRow__lim_isLimit : Env := ⟨Proofs.Try.prog, fun _ => false, sumsOf [R_slices_ContainsFunc_int64__lim_isRow_fn1__lim_isLimit]⟩
def A_lim_isRow__lim_isLimit : Notes := ⟨[], []⟩
theorem E_lim_isRow__lim_isLimit_ok : EnvOK E_lim_isRow__lim_isLimit := ⟨eqOK_none, sumsOf_ok (List.forall_mem_cons.2 ⟨R_slices_ContainsFunc_int64__lim_isRow_fn1__lim_isLimit_ok, List.forall_mem_nil _⟩)⟩
theorem E_lim_isRow__lim_isLimit_local : SumsLocal E_lim_isRow__lim_isLimit.sums := sumsOf_local (List.forall_mem_cons.2 ⟨R_slices_ContainsFunc_int64__lim_isRow_fn1__lim_isLimit_local, List.forall_mem_nil _⟩)
def as_lim_isRow__lim_isLimit : List AS := [.c (.dat false (.int .i64)), .c (.int .i64), .c (.fn 90)]
def rs_lim_isRow__lim_isLimit : RS := .c (.bool)
def pk_lim_isRow__lim_isLimit : Bool → RL rs_lim_isRow__lim_isLimit.cells := fun x => (x, ())
def up_lim_isRow__lim_isLimit : RL rs_lim_isRow__lim_isLimit.cells → Bool := fun d => d.1
def R_lim_isRow__lim_isLimit : Nat × Entry := (91, fun k nm args h => entry as_lim_isRow__lim_isLimit rs_lim_isRow__lim_isLimit (fun d => lim_isRow__lim_isLimit k d.1 d.2.1) pk_lim_isRow__lim_isLimit nm args h)
theorem lim_isRow__lim_isLimit_ev (k : Nat) (d : AD as_lim_isRow__lim_isLimit) : evF E_lim_isRow__lim_isLimit A_lim_isRow__lim_isLimit k 1000 0 Proofs.Try.f91 (absArgs as_lim_isRow__lim_isLimit d).1 (absArgs as_lim_isRow__lim_isLimit d).2 (outM rs_lim_isRow__lim_isLimit up_lim_isRow__lim_isLimit) = lim_isRow__lim_isLimit k d.1 d.2.1 := by
  obtain ⟨_, _, _, _⟩ := d
  kernel_rfl
theorem R_lim_isRow__lim_isLimit_ok : EntryOK Proofs.Try.prog R_lim_isRow__lim_isLimit := fun k _ _ _ _ _ hy =>
  entry_sound (unpack := up_lim_isRow__lim_isLimit) (A := A_lim_isRow__lim_isLimit) (k := k) (pre := 1000) (na := 0) (E := E_lim_isRow__lim_isLimit) E_lim_isRow__lim_isLimit_ok E_lim_isRow__lim_isLimit_local mixed_orders (f := 91) (fn := Proofs.Try.f91) (by kernel_rfl) (body_loops (loopsOK_none (by kernel_rfl))) (enters (fn := Proofs.Try.f91) (by kernel_rfl) (by kernel_rfl) (by kernel_rfl)) (fun _ => rfl) (lim_isRow__lim_isLimit_ev k) hy
theorem R_lim_isRow__lim_isLimit_local : EntryLocal R_lim_isRow__lim_isLimit.2 := entry_local (S := fun k (d : AD as_lim_isRow__lim_isLimit) => lim_isRow__lim_isLimit k d.1 d.2.1)

/-! ### giro/lim.isSquare -/
noncomputable def E_lim_isSquare__lim_isLimit : Env := ⟨Proofs.Try.prog, fun _ => false, sumsOf [R_lim_isRow__lim_isLimit]⟩
def I_lim_isSquare__lim_isLimit_L0 : Spec := ⟨[(1, .c (.int .i64)), (2, .c (.lit (.fn 90 []))), (13, .c (.dat false (.sl (.int .i64)))), (14, .c (.int .i64)), (15, .c (.int .i64))], [], []⟩
def O_lim_isSquare__lim_isLimit_L0 : List (Ex × Spec) := [(.exit 0, ⟨[], [], []⟩), (.ret, ⟨[(6, .c (.bool))], [], []⟩)]
def T_lim_isSquare__lim_isLimit_L0 : OutD O_lim_isSquare__lim_isLimit_L0 → Unit ⊕ Bool
 | .inl d => .inl ()
 | .inr d => .inr d.1.1.1
def e_lim_isSquare__lim_isLimit_L0 (base : Nat) (x : Unit ⊕ Bool) (R : Type) (K : Ex → St → Option R) : Option R := match x with
 | .inl x => K (.exit 0) (stOf base ⟨[], [], []⟩ ((), ()))
 | .inr x => K .ret (stOf base ⟨[(6, .c (.bool))], [], []⟩ (((x, ()), ()), ()))
def L_lim_isSquare__lim_isLimit_L0 : LoopSum := ⟨I_lim_isSquare__lim_isLimit_L0, O_lim_isSquare__lim_isLimit_L0, Unit ⊕ Bool, fun k d => lim_isSquare__lim_isLimit_L0 k k d.1.1.1 d.1.2.2.1.1 d.1.2.2.2.1.1 d.1.2.2.2.2.1.1, e_lim_isSquare__lim_isLimit_L0⟩
def A_lim_isSquare__lim_isLimit : Notes := ⟨[], [(4, L_lim_isSquare__lim_isLimit_L0)]⟩
theorem E_lim_isSquare__lim_isLimit_ok : EnvOK E_lim_isSquare__lim_isLimit := ⟨eqOK_none, sumsOf_ok (List.forall_mem_cons.2 ⟨R_lim_isRow__lim_isLimit_ok, List.forall_mem_nil _⟩)⟩
theorem E_lim_isSquare__lim_isLimit_local : SumsLocal E_lim_isSquare__lim_isLimit.sums := sumsOf_local (List.forall_mem_cons.2 ⟨R_lim_isRow__lim_isLimit_local, List.forall_mem_nil _⟩)
theorem lim_isSquare__lim_isLimit_L0_step (k : Nat) (rec : Int → List (List Int) → Int → Int → Option (Unit ⊕ Bool)) (d : I_lim_isSquare__lim_isLimit_L0.den) : lim_isSquare__lim_isLimit_L0b k rec d.1.1.1 d.1.2.2.1.1 d.1.2.2.2.1.1 d.1.2.2.2.2.1.1 = evC E_lim_isSquare__lim_isLimit A_lim_isSquare__lim_isLimit k 1000 0 25 (loopAt (bodyOf Proofs.Try.f89) 0) (stOf (1000 + loopBase) I_lim_isSquare__lim_isLimit_L0 d) (roundK 1000 I_lim_isSquare__lim_isLimit_L0 O_lim_isSquare__lim_isLimit_L0 T_lim_isSquare__lim_isLimit_L0 fun d => rec d.1.1.1 d.1.2.2.1.1 d.1.2.2.2.1.1 d.1.2.2.2.2.1.1) := by
  obtain ⟨⟨⟨_, _⟩, _, ⟨_, _⟩, ⟨_, _⟩, ⟨_, _⟩, _⟩, _⟩ := d
  kernel_rfl
theorem lim_isSquare__lim_isLimit_L0_ok : LoopOK Proofs.Try.prog 1000 0 25 (loopAt (bodyOf Proofs.Try.f89) 0) L_lim_isSquare__lim_isLimit_L0 :=
  loop_sound (A := A_lim_isSquare__lim_isLimit) (inS := I_lim_isSquare__lim_isLimit_L0) (outs := O_lim_isSquare__lim_isLimit_L0) E_lim_isSquare__lim_isLimit_ok E_lim_isSquare__lim_isLimit_local mixed_orders (loopsOK_none (by kernel_rfl)) T_lim_isSquare__lim_isLimit_L0 e_lim_isSquare__lim_isLimit_L0 (by intro o R K; rcases o with o | o <;> rfl) (fun k n d => lim_isSquare__lim_isLimit_L0 k n d.1.1.1 d.1.2.2.1.1 d.1.2.2.2.1.1 d.1.2.2.2.2.1.1) (fun _ _ => rfl) (fun k n d => lim_isSquare__lim_isLimit_L0_step k (lim_isSquare__lim_isLimit_L0 k n) d)
def as_lim_isSquare__lim_isLimit : List AS := [.c (.dat false (.sl (.int .i64))), .c (.int .i64), .c (.fn 90)]
def rs_lim_isSquare__lim_isLimit : RS := .c (.bool)
def pk_lim_isSquare__lim_isLimit : Bool → RL rs_lim_isSquare__lim_isLimit.cells := fun x => (x, ())
def up_lim_isSquare__lim_isLimit : RL rs_lim_isSquare__lim_isLimit.cells → Bool := fun d => d.1
def R_lim_isSquare__lim_isLimit : Nat × Entry := (89, fun k nm args h => entry as_lim_isSquare__lim_isLimit rs_lim_isSquare__lim_isLimit (fun d => lim_isSquare__lim_isLimit k d.1 d.2.1) pk_lim_isSquare__lim_isLimit nm args h)
theorem lim_isSquare__lim_isLimit_ev (k : Nat) (d : AD as_lim_isSquare__lim_isLimit) : evF E_lim_isSquare__lim_isLimit A_lim_isSquare__lim_isLimit k 1000 0 Proofs.Try.f89 (absArgs as_lim_isSquare__lim_isLimit d).1 (absArgs as_lim_isSquare__lim_isLimit d).2 (outM rs_lim_isSquare__lim_isLimit up_lim_isSquare__lim_isLimit) = lim_isSquare__lim_isLimit k d.1 d.2.1 := by
  obtain ⟨_, _, _, _⟩ := d
  kernel_rfl
theorem R_lim_isSquare__lim_isLimit_ok : EntryOK Proofs.Try.prog R_lim_isSquare__lim_isLimit := fun k _ _ _ _ _ hy =>
  entry_sound (unpack := up_lim_isSquare__lim_isLimit) (A := A_lim_isSquare__lim_isLimit) (k := k) (pre := 1000) (na := 0) (E := E_lim_isSquare__lim_isLimit) E_lim_isSquare__lim_isLimit_ok E_lim_isSquare__lim_isLimit_local mixed_orders (f := 89) (fn := Proofs.Try.f89) (by kernel_rfl) (body_loops (loopsOK_of (n := 1) (by kernel_rfl) fun i hi => match i, hi with | 0, _ => ⟨L_lim_isSquare__lim_isLimit_L0, by kernel_rfl, lim_isSquare__lim_isLimit_L0_ok⟩ | i + 1, hi => absurd hi (by omega))) (enters (fn := Proofs.Try.f89) (by kernel_rfl) (by kernel_rfl) (by kernel_rfl)) (fun _ => rfl) (lim_isSquare__lim_isLimit_ev k) hy
theorem R_lim_isSquare__lim_isLimit_local : EntryLocal R_lim_isSquare__lim_isLimit.2 := entry_local (S := fun k (d : AD as_lim_isSquare__lim_isLimit) => lim_isSquare__lim_isLimit k d.1 d.2.1)

/-! ### giro/lim.isNet -/
noncomputable def E_lim_isNet : Env := ⟨Proofs.Try.prog, fun _ => false, sumsOf []⟩
def A_lim_isNet : Notes := ⟨[], []⟩
theorem E_lim_isNet_ok : EnvOK E_lim_isNet := ⟨eqOK_none, sumsOf_ok (List.forall_mem_nil _)⟩
theorem E_lim_isNet_local : SumsLocal E_lim_isNet.sums := sumsOf_local (List.forall_mem_nil _)
def as_lim_isNet : List AS := [.c (.int .i64)]
def rs_lim_isNet : RS := .c (.bool)
def pk_lim_isNet : Bool → RL rs_lim_isNet.cells := fun x => (x, ())
def up_lim_isNet : RL rs_lim_isNet.cells → Bool := fun d => d.1
def R_lim_isNet : Nat × Entry := (92, fun k nm args h => entry as_lim_isNet rs_lim_isNet (fun d => lim_isNet k d.1) pk_lim_isNet nm args h)
theorem lim_isNet_ev (k : Nat) (d : AD as_lim_isNet) : evF E_lim_isNet A_lim_isNet k 1000 0 Proofs.Try.f92 (absArgs as_lim_isNet d).1 (absArgs as_lim_isNet d).2 (outM rs_lim_isNet up_lim_isNet) = lim_isNet k d.1 := by
  obtain ⟨_, _⟩ := d
  kernel_rfl
theorem R_lim_isNet_ok : EntryOK Proofs.Try.prog R_lim_isNet := fun k _ _ _ _ _ hy =>
  entry_sound (unpack := up_lim_isNet) (A := A_lim_isNet) (k := k) (pre := 1000) (na := 0) (E := E_lim_isNet) E_lim_isNet_ok E_lim_isNet_local mixed_orders (f := 92) (fn := Proofs.Try.f92) (by kernel_rfl) (body_loops (loopsOK_none (by kernel_rfl))) (enters (fn := Proofs.Try.f92) (by kernel_rfl) (by kernel_rfl) (by kernel_rfl)) (fun _ => rfl) (lim_isNet_ev k) hy
theorem R_lim_isNet_local : EntryLocal R_lim_isNet.2 := entry_local (S := fun k (d : AD as_lim_isNet) => lim_isNet k d.1)

/-! ### giro/lim.isRow$1 -/
noncomputable def E_lim_isRow_fn1__lim_isNet : Env := ⟨Proofs.Try.prog, fun _ => false, sumsOf [R_lim_isNet]⟩
def A_lim_isRow_fn1__lim_isNet : Notes := ⟨[], []⟩
theorem E_lim_isRow_fn1__lim_isNet_ok : EnvOK E_lim_isRow_fn1__lim_isNet := ⟨eqOK_none, sumsOf_ok (List.forall_mem_cons.2 ⟨R_lim_isNet_ok, List.forall_mem_nil _⟩)⟩
theorem E_lim_isRow_fn1__lim_isNet_local : SumsLocal E_lim_isRow_fn1__lim_isNet.sums := sumsOf_local (List.forall_mem_cons.2 ⟨R_lim_isNet_local, List.forall_mem_nil _⟩)
def as_lim_isRow_fn1__lim_isNet : List AS := [.c (.int .i64), .ptr [.fn 92]]
def rs_lim_isRow_fn1__lim_isNet : RS := .c (.bool)
def pk_lim_isRow_fn1__lim_isNet : Bool → RL rs_lim_isRow_fn1__lim_isNet.cells := fun x => (x, ())
def up_lim_isRow_fn1__lim_isNet : RL rs_lim_isRow_fn1__lim_isNet.cells → Bool := fun d => d.1
def R_lim_isRow_fn1__lim_isNet : Nat × Entry := (112, fun k nm args h => entry as_lim_isRow_fn1__lim_isNet rs_lim_isRow_fn1__lim_isNet (fun d => lim_isRow_fn1__lim_isNet k d.1) pk_lim_isRow_fn1__lim_isNet nm args h)
theorem lim_isRow_fn1__lim_isNet_ev (k : Nat) (d : AD as_lim_isRow_fn1__lim_isNet) : evF E_lim_isRow_fn1__lim_isNet A_lim_isRow_fn1__lim_isNet k 1000 0 Proofs.Try.f112 (absArgs as_lim_isRow_fn1__lim_isNet d).1 (absArgs as_lim_isRow_fn1__lim_isNet d).2 (outM rs_lim_isRow_fn1__lim_isNet up_lim_isRow_fn1__lim_isNet) = lim_isRow_fn1__lim_isNet k d.1 := by
  obtain ⟨_, _, _⟩ := d
  kernel_rfl
theorem R_lim_isRow_fn1__lim_isNet_ok : EntryOK Proofs.Try.prog R_lim_isRow_fn1__lim_isNet := fun k _ _ _ _ _ hy =>
  entry_sound (unpack := up_lim_isRow_fn1__lim_isNet) (A := A_lim_isRow_fn1__lim_isNet) (k := k) (pre := 1000) (na := 0) (E := E_lim_isRow_fn1__lim_isNet) E_lim_isRow_fn1__lim_isNet_ok E_lim_isRow_fn1__lim_isNet_local mixed_orders (f := 112) (fn := Proofs.Try.f112) (by kernel_rfl) (body_loops (loopsOK_none (by kernel_rfl))) (enters (fn := Proofs.Try.f112) (by kernel_rfl) (by kernel_rfl) (by kernel_rfl)) (fun _ => rfl) (lim_isRow_fn1__lim_isNet_ev k) hy
theorem R_lim_isRow_fn1__lim_isNet_local : EntryLocal R_lim_isRow_fn1__lim_isNet.2 := entry_local (S := fun k (d : AD as_lim_isRow_fn1__lim_isNet) => lim_isRow_fn1__lim_isNet k d.1)

/-! ### slices.IndexFunc[[]int64,int64] -/
noncomputable def E_slices_IndexFunc_int64__lim_isRow_fn1__lim_isNet : Env := ⟨Proofs.Try.prog, fun _ => false, sumsOf [R_lim_isRow_fn1__lim_isNet]⟩
def I_slices_IndexFunc_int64__lim_isRow_fn1__lim_isNet_L0 : Spec := ⟨[(0, .c (.dat false (.int .i64))), (1, .c (.lit (.fn 112 [1001000]))), (7, .c (.int .i64)), (8, .c (.int .i64))], [.robox [.lit (.fn 92 [])]], []⟩
def O_slices_IndexFunc_int64__lim_isRow_fn1__lim_isNet_L0 : List (Ex × Spec) := [(.exit 0, ⟨[], [], []⟩), (.ret, ⟨[(4, .c (.int .i64))], [], []⟩)]
def T_slices_IndexFunc_int64__lim_isRow_fn1__lim_isNet_L0 : OutD O_slices_IndexFunc_int64__lim_isRow_fn1__lim_isNet_L0 → Unit ⊕ Int
 | .inl d => .inl ()
 | .inr d => .inr d.1.1.1
def e_slices_IndexFunc_int64__lim_isRow_fn1__lim_isNet_L0 (base : Nat) (x : Unit ⊕ Int) (R : Type) (K : Ex → St → Option R) : Option R := match x with
 | .inl x => K (.exit 0) (stOf base ⟨[], [], []⟩ ((), ()))
 | .inr x => K .ret (stOf base ⟨[(4, .c (.int .i64))], [], []⟩ (((x, ()), ()), ()))
def L_slices_IndexFunc_int64__lim_isRow_fn1__lim_isNet_L0 : LoopSum := ⟨I_slices_IndexFunc_int64__lim_isRow_fn1__lim_isNet_L0, O_slices_IndexFunc_int64__lim_isRow_fn1__lim_isNet_L0, Unit ⊕ Int, fun k d => slices_IndexFunc_int64__lim_isRow_fn1__lim_isNet_L0 k k d.1.1.1 d.1.2.2.1.1 d.1.2.2.2.1.1, e_slices_IndexFunc_int64__lim_isRow_fn1__lim_isNet_L0⟩
def A_slices_IndexFunc_int64__lim_isRow_fn1__lim_isNet : Notes := ⟨[], [(2, L_slices_IndexFunc_int64__lim_isRow_fn1__lim_isNet_L0)]⟩
theorem E_slices_IndexFunc_int64__lim_isRow_fn1__lim_isNet_ok : EnvOK E_slices_IndexFunc_int64__lim_isRow_fn1__lim_isNet := ⟨eqOK_none, sumsOf_ok (List.forall_mem_cons.2 ⟨R_lim_isRow_fn1__lim_isNet_ok, List.forall_mem_nil _⟩)⟩
theorem E_slices_IndexFunc_int64__lim_isRow_fn1__lim_isNet_local : SumsLocal E_slices_IndexFunc_int64__lim_isRow_fn1__lim_isNet.sums := sumsOf_local (List.forall_mem_cons.2 ⟨R_lim_isRow_fn1__lim_isNet_local, List.forall_mem_nil _⟩)
theorem slices_IndexFunc_int64__lim_isRow_fn1__lim_isNet_L0_step (k : Nat) (rec : List Int → Int → Int → Option (Unit ⊕ Int)) (d : I_slices_IndexFunc_int64__lim_isRow_fn1__lim_isNet_L0.den) : slices_IndexFunc_int64__lim_isRow_fn1__lim_isNet_L0b k rec d.1.1.1 d.1.2.2.1.1 d.1.2.2.2.1.1 = evC E_slices_IndexFunc_int64__lim_isRow_fn1__lim_isNet A_slices_IndexFunc_int64__lim_isRow_fn1__lim_isNet k 1000 0 19 (loopAt (bodyOf Proofs.Try.f129) 0) (stOf (1000 + loopBase) I_slices_IndexFunc_int64__lim_isRow_fn1__lim_isNet_L0 d) (roundK 1000 I_slices_IndexFunc_int64__lim_isRow_fn1__lim_isNet_L0 O_slices_IndexFunc_int64__lim_isRow_fn1__lim_isNet_L0 T_slices_IndexFunc_int64__lim_isRow_fn1__lim_isNet_L0 fun d => rec d.1.1.1 d.1.2.2.1.1 d.1.2.2.2.1.1) := by
  obtain ⟨⟨⟨_, _⟩, _, ⟨_, _⟩, ⟨_, _⟩, _⟩, ⟨_, _⟩⟩ := d
  kernel_rfl
theorem slices_IndexFunc_int64__lim_isRow_fn1__lim_isNet_L0_ok : LoopOK Proofs.Try.prog 1000 0 19 (loopAt (bodyOf Proofs.Try.f129) 0) L_slices_IndexFunc_int64__lim_isRow_fn1__lim_isNet_L0 :=
  loop_sound (A := A_slices_IndexFunc_int64__lim_isRow_fn1__lim_isNet) (inS := I_slices_IndexFunc_int64__lim_isRow_fn1__lim_isNet_L0) (outs := O_slices_IndexFunc_int64__lim_isRow_fn1__lim_isNet_L0) E_slices_IndexFunc_int64__lim_isRow_fn1__lim_isNet_ok E_slices_IndexFunc_int64__lim_isRow_fn1__lim_isNet_local mixed_orders (loopsOK_none (by kernel_rfl)) T_slices_IndexFunc_int64__lim_isRow_fn1__lim_isNet_L0 e_slices_IndexFunc_int64__lim_isRow_fn1__lim_isNet_L0 (by intro o R K; rcases o with o | o <;> rfl) (fun k n d => slices_IndexFunc_int64__lim_isRow_fn1__lim_isNet_L0 k n d.1.1.1 d.1.2.2.1.1 d.1.2.2.2.1.1) (fun _ _ => rfl) (fun k n d => slices_IndexFunc_int64__lim_isRow_fn1__lim_isNet_L0_step k (slices_IndexFunc_int64__lim_isRow_fn1__lim_isNet_L0 k n) d)
def as_slices_IndexFunc_int64__lim_isRow_fn1__lim_isNet : List AS := [.c (.dat false (.int .i64)), .fn 112 [[.fn 92]]]
def rs_slices_IndexFunc_int64__lim_isRow_fn1__lim_isNet : RS := .c (.int .i64)
def pk_slices_IndexFunc_int64__lim_isRow_fn1__lim_isNet : Int → RL rs_slices_IndexFunc_int64__lim_isRow_fn1__lim_isNet.cells := fun x => (x, ())
def up_slices_IndexFunc_int64__lim_isRow_fn1__lim_isNet : RL rs_slices_IndexFunc_int64__lim_isRow_fn1__lim_isNet.cells → Int := fun d => d.1
def R_slices_IndexFunc_int64__lim_isRow_fn1__lim_isNet : Nat × Entry := (129, fun k nm args h => entry as_slices_IndexFunc_int64__lim_isRow_fn1__lim_isNet rs_slices_IndexFunc_int64__lim_isRow_fn1__lim_isNet (fun d => slices_IndexFunc_int64__lim_isRow_fn1__lim_isNet k d.1) pk_slices_IndexFunc_int64__lim_isRow_fn1__lim_isNet nm args h)
theorem slices_IndexFunc_int64__lim_isRow_fn1__lim_isNet_ev (k : Nat) (d : AD as_slices_IndexFunc_int64__lim_isRow_fn1__lim_isNet) : evF E_slices_IndexFunc_int64__lim_isRow_fn1__lim_isNet A_slices_IndexFunc_int64__lim_isRow_fn1__lim_isNet k 1000 0 Proofs.Try.f129 (absArgs as_slices_IndexFunc_int64__lim_isRow_fn1__lim_isNet d).1 (absArgs as_slices_IndexFunc_int64__lim_isRow_fn1__lim_isNet d).2 (outM rs_slices_IndexFunc_int64__lim_isRow_fn1__lim_isNet up_slices_IndexFunc_int64__lim_isRow_fn1__lim_isNet) = slices_IndexFunc_int64__lim_isRow_fn1__lim_isNet k d.1 := by
  obtain ⟨_, _, _⟩ := d
  kernel_rfl
theorem R_slices_IndexFunc_int64__lim_isRow_fn1__lim_isNet_ok : EntryOK Proofs.Try.prog R_slices_IndexFunc_int64__lim_isRow_fn1__lim_isNet := fun k _ _ _ _ _ hy =>
  entry_sound (unpack := up_slices_IndexFunc_int64__lim_isRow_fn1__lim_isNet) (A := A_slices_IndexFunc_int64__lim_isRow_fn1__lim_isNet) (k := k) (pre := 1000) (na := 0) (E := E_slices_IndexFunc_int64__lim_isRow_fn1__lim_isNet) E_slices_IndexFunc_int64__lim_isRow_fn1__lim_isNet_ok E_slices_IndexFunc_int64__lim_isRow_fn1__lim_isNet_local mixed_orders (f := 129) (fn := Proofs.Try.f129) (by kernel_rfl) (body_loops (loopsOK_of (n := 1) (by kernel_rfl) fun i hi => match i, hi with | 0, _ => ⟨L_slices_IndexFunc_int64__lim_isRow_fn1__lim_isNet_L0, by kernel_rfl, slices_IndexFunc_int64__lim_isRow_fn1__lim_isNet_L0_ok⟩ | i + 1, hi => absurd hi (by omega))) (enters (fn := Proofs.Try.f129) (by kernel_rfl) (by kernel_rfl) (by kernel_rfl)) (fun _ => rfl) (slices_IndexFunc_int64__lim_isRow_fn1__lim_isNet_ev k) hy
theorem R_slices_IndexFunc_int64__lim_isRow_fn1__lim_isNet_local : EntryLocal R_slices_IndexFunc_int64__lim_isRow_fn1__lim_isNet.2 := entry_local (S := fun k (d : AD as_slices_IndexFunc_int64__lim_isRow_fn1__lim_isNet) => slices_IndexFunc_int64__lim_isRow_fn1__lim_isNet k d.1)

/-! ### slices.ContainsFunc[[]int64,int64] -/
noncomputable def E_slices_ContainsFunc_int64__lim_isRow_fn1__lim_isNet : Env := ⟨Proofs.Try.prog, fun _ => false, sumsOf [R_slices_IndexFunc_int64__lim_isRow_fn1__lim_isNet]⟩
def A_slices_ContainsFunc_int64__lim_isRow_fn1__lim_isNet : Notes := ⟨[], []⟩
theorem E_slices_ContainsFunc_int64__lim_isRow_fn1__lim_isNet_ok : EnvOK E_slices_ContainsFunc_int64__lim_isRow_fn1__lim_isNet := ⟨eqOK_none, sumsOf_ok (List.forall_mem_cons.2 ⟨R_slices_IndexFunc_int64__lim_isRow_fn1__lim_isNet_ok, List.forall_mem_nil _⟩)⟩
theorem E_slices_ContainsFunc_int64__lim_isRow_fn1__lim_isNet_local : SumsLocal E_slices_ContainsFunc_int64__lim_isRow_fn1__lim_isNet.sums := sumsOf_local (List.forall_mem_cons.2 ⟨R_slices_IndexFunc_int64__lim_isRow_fn1__lim_isNet_local, List.forall_mem_nil _⟩)
def as_slices_ContainsFunc_int64__lim_isRow_fn1__lim_isNet : List AS := [.c (.dat false (.int .i64)), .fn 112 [[.fn 92]]]
def rs_slices_ContainsFunc_int64__lim_isRow_fn1__lim_isNet : RS := .c (.bool)
def pk_slices_ContainsFunc_int64__lim_isRow_fn1__lim_isNet : Bool → RL rs_slices_ContainsFunc_int64__lim_isRow_fn1__lim_isNet.cells := fun x => (x, ())
def up_slices_ContainsFunc_int64__lim_isRow_fn1__lim_isNet : RL rs_slices_ContainsFunc_int64__lim_isRow_fn1__lim_isNet.cells → Bool := fun d => d.1
def R_slices_ContainsFunc_int64__lim_isRow_fn1__lim_isNet : Nat × Entry := (111, fun k nm args h => entry as_slices_ContainsFunc_int64__lim_isRow_fn1__lim_isNet rs_slices_ContainsFunc_int64__lim_isRow_fn1__lim_isNet (fun d => slices_ContainsFunc_int64__lim_isRow_fn1__lim_isNet k d.1) pk_slices_ContainsFunc_int64__lim_isRow_fn1__lim_isNet nm args h)
theorem slices_ContainsFunc_int64__lim_isRow_fn1__lim_isNet_ev (k : Nat) (d : AD as_slices_ContainsFunc_int64__lim_isRow_fn1__lim_isNet) : evF E_slices_ContainsFunc_int64__lim_isRow_fn1__lim_isNet A_slices_ContainsFunc_int64__lim_isRow_fn1__lim_isNet k 1000 0 Proofs.Try.f111 (absArgs as_slices_ContainsFunc_int64__lim_isRow_fn1__lim_isNet d).1 (absArgs as_slices_ContainsFunc_int64__lim_isRow_fn1__lim_isNet d).2 (outM rs_slices_ContainsFunc_int64__lim_isRow_fn1__lim_isNet up_slices_ContainsFunc_int64__lim_isRow_fn1__lim_isNet) = slices_ContainsFunc_int64__lim_isRow_fn1__lim_isNet k d.1 := by
  obtain ⟨_, _, _⟩ := d
  kernel_rfl
theorem R_slices_ContainsFunc_int64__lim_isRow_fn1__lim_isNet_ok : EntryOK Proofs.Try.prog R_slices_ContainsFunc_int64__lim_isRow_fn1__lim_isNet := fun k _ _ _ _ _ hy =>
  entry_sound (unpack := up_slices_ContainsFunc_int64__lim_isRow_fn1__lim_isNet) (A := A_slices_ContainsFunc_int64__lim_isRow_fn1__lim_isNet) (k := k) (pre := 1000) (na := 0) (E := E_slices_ContainsFunc_int64__lim_isRow_fn1__lim_isNet) E_slices_ContainsFunc_int64__lim_isRow_fn1__lim_isNet_ok E_slices_ContainsFunc_int64__lim_isRow_fn1__lim_isNet_local mixed_orders (f := 111) (fn := Proofs.Try.f111) (by kernel_rfl) (body_loops (loopsOK_none (by kernel_rfl))) (enters (fn := Proofs.Try.f111) (by kernel_rfl) (by kernel_rfl) (by kernel_rfl)) (fun _ => rfl) (slices_ContainsFunc_int64__lim_isRow_fn1__lim_isNet_ev k) hy
theorem R_slices_ContainsFunc_int64__lim_isRow_fn1__lim_isNet_local : EntryLocal R_slices_ContainsFunc_int64__lim_isRow_fn1__lim_isNet.2 := entry_local (S := fun k (d : AD as_slices_ContainsFunc_int64__lim_isRow_fn1__lim_isNet) => slices_ContainsFunc_int64__lim_isRow_fn1__lim_isNet k d.1)

/-! ### giro/lim.isRow -/
noncomputable def E_lim_isRow__lim_isNet : Env := ⟨Proofs.Try.prog, fun _ => false, sumsOf [R_slices_ContainsFunc_int64__lim_isRow_fn1__lim_isNet]⟩
def A_lim_isRow__lim_isNet : Notes := ⟨[], []⟩
theorem E_lim_isRow__lim_isNet_ok : EnvOK E_lim_isRow__lim_isNet := ⟨eqOK_none, sumsOf_ok (List.forall_mem_cons.2 ⟨R_slices_ContainsFunc_int64__lim_isRow_fn1__lim_isNet_ok, List.forall_mem_nil _⟩)⟩
theorem E_lim_isRow__lim_isNet_local : SumsLocal E_lim_isRow__lim_isNet.sums := sumsOf_local (List.forall_mem_cons.2 ⟨R_slices_ContainsFunc_int64__lim_isRow_fn1__lim_isNet_local, List.forall_mem_nil _⟩)
def as_lim_isRow__lim_isNet : List AS := [.c (.dat false (.int .i64)), .c (.int .i64), .c (.fn 92)]
def rs_lim_isRow__lim_isNet : RS := .c (.bool)
def pk_lim_isRow__lim_isNet : Bool → RL rs_lim_isRow__lim_isNet.cells := fun x => (x, ())
def up_lim_isRow__lim_isNet : RL rs_lim_isRow__lim_isNet.cells → Bool := fun d => d.1
def R_lim_isRow__lim_isNet : Nat × Entry := (91, fun k nm args h => entry as_lim_isRow__lim_isNet rs_lim_isRow__lim_isNet (fun d => lim_isRow__lim_isNet k d.1 d.2.1) pk_lim_isRow__lim_isNet nm args h)
theorem lim_isRow__lim_isNet_ev (k : Nat) (d : AD as_lim_isRow__lim_isNet) : evF E_lim_isRow__lim_isNet A_lim_isRow__lim_isNet k 1000 0 Proofs.Try.f91 (absArgs as_lim_isRow__lim_isNet d).1 (absArgs as_lim_isRow__lim_isNet d).2 (outM rs_lim_isRow__lim_isNet up_lim_isRow__lim_isNet) = lim_isRow__lim_isNet k d.1 d.2.1 := by
  obtain ⟨_, _, _, _⟩ := d
  kernel_rfl
theorem R_lim_isRow__lim_isNet_ok : EntryOK Proofs.Try.prog R_lim_isRow__lim_isNet := fun k _ _ _ _ _ hy =>
  entry_sound (unpack := up_lim_isRow__lim_isNet) (A := A_lim_isRow__lim_isNet) (k := k) (pre := 1000) (na := 0) (E := E_lim_isRow__lim_isNet) E_lim_isRow__lim_isNet_ok E_lim_isRow__lim_isNet_local mixed_orders (f := 91) (fn := Proofs.Try.f91) (by kernel_rfl) (body_loops (loopsOK_none (by kernel_rfl))) (enters (fn := Proofs.Try.f91) (by kernel_rfl) (by kernel_rfl) (by kernel_rfl)) (fun _ => rfl) (lim_isRow__lim_isNet_ev k) hy
theorem R_lim_isRow__lim_isNet_local : EntryLocal R_lim_isRow__lim_isNet.2 := entry_local (S := fun k (d : AD as_lim_isRow__lim_isNet) => lim_isRow__lim_isNet k d.1 d.2.1)

/-! ### giro/lim.isSquare -/
noncomputable def E_lim_isSquare__lim_isNet : Env := ⟨Proofs.Try.prog, fun _ => false, sumsOf [R_lim_isRow__lim_isNet]⟩
def I_lim_isSquare__lim_isNet_L0 : Spec := ⟨[(1, .c (.int .i64)), (2, .c (.lit (.fn 92 []))), (13, .c (.dat false (.sl (.int .i64)))), (14, .c (.int .i64)), (15, .c (.int .i64))], [], []⟩
def O_lim_isSquare__lim_isNet_L0 : List (Ex × Spec) := [(.exit 0, ⟨[], [], []⟩), (.ret, ⟨[(6, .c (.bool))], [], []⟩)]
def T_lim_isSquare__lim_isNet_L0 : OutD O_lim_isSquare__lim_isNet_L0 → Unit ⊕ Bool
 | .inl d => .inl ()
 | .inr d => .inr d.1.1.1
def e_lim_isSquare__lim_isNet_L0 (base : Nat) (x : Unit ⊕ Bool) (R : Type) (K : Ex → St → Option R) : Option R := match x with
 | .inl x => K (.exit 0) (stOf base ⟨[], [], []⟩ ((), ()))
 | .inr x => K .ret (stOf base ⟨[(6, .c (.bool))], [], []⟩ (((x, ()), ()), ()))
def L_lim_isSquare__lim_isNet_L0 : LoopSum := ⟨I_lim_isSquare__lim_isNet_L0, O_lim_isSquare__lim_isNet_L0, Unit ⊕ Bool, fun k d => lim_isSquare__lim_isNet_L0 k k d.1.1.1 d.1.2.2.1.1 d.1.2.2.2.1.1 d.1.2.2.2.2.1.1, e_lim_isSquare__lim_isNet_L0⟩
def A_lim_isSquare__lim_isNet : Notes := ⟨[], [(4, L_lim_isSquare__lim_isNet_L0)]⟩
theorem E_lim_isSquare__lim_isNet_ok : EnvOK E_lim_isSquare__lim_isNet := ⟨eqOK_none, sumsOf_ok (List.forall_mem_cons.2 ⟨R_lim_isRow__lim_isNet_ok, List.forall_mem_nil _⟩)⟩
theorem E_lim_isSquare__lim_isNet_local : SumsLocal E_lim_isSquare__lim_isNet.sums := sumsOf_local (List.forall_mem_cons.2 ⟨R_lim_isRow__lim_isNet_local, List.forall_mem_nil _⟩)
theorem lim_isSquare__lim_isNet_L0_step (k : Nat) (rec : Int → List (List Int) → Int → Int → Option (Unit ⊕ Bool)) (d : I_lim_isSquare__lim_isNet_L0.den) : lim_isSquare__lim_isNet_L0b k rec d.1.1.1 d.1.2.2.1.1 d.1.2.2.2.1.1 d.1.2.2.2.2.1.1 = evC E_lim_isSquare__lim_isNet A_lim_isSquare__lim_isNet k 1000 0 25 (loopAt (bodyOf Proofs.Try.f89) 0) (stOf (1000 + loopBase) I_lim_isSquare__lim_isNet_L0 d) (roundK 1000 I_lim_isSquare__lim_isNet_L0 O_lim_isSquare__lim_isNet_L0 T_lim_isSquare__lim_isNet_L0 fun d => rec d.1.1.1 d.1.2.2.1.1 d.1.2.2.2.1.1 d.1.2.2.2.2.1.1) := by
  obtain ⟨⟨⟨_, _⟩, _, ⟨_, _⟩, ⟨_, _⟩, ⟨_, _⟩, _⟩, _⟩ := d
  kernel_rfl
theorem lim_isSquare__lim_isNet_L0_ok : LoopOK Proofs.Try.prog 1000 0 25 (loopAt (bodyOf Proofs.Try.f89) 0) L_lim_isSquare__lim_isNet_L0 :=
  loop_sound (A := A_lim_isSquare__lim_isNet) (inS := I_lim_isSquare__lim_isNet_L0) (outs := O_lim_isSquare__lim_isNet_L0) E_lim_isSquare__lim_isNet_ok E_lim_isSquare__lim_isNet_local mixed_orders (loopsOK_none (by kernel_rfl)) T_lim_isSquare__lim_isNet_L0 e_lim_isSquare__lim_isNet_L0 (by intro o R K; rcases o with o | o <;> rfl) (fun k n d => lim_isSquare__lim_isNet_L0 k n d.1.1.1 d.1.2.2.1.1 d.1.2.2.2.1.1 d.1.2.2.2.2.1.1) (fun _ _ => rfl) (fun k n d => lim_isSquare__lim_isNet_L0_step k (lim_isSquare__lim_isNet_L0 k n) d)
def as_lim_isSquare__lim_isNet : List AS := [.c (.dat false (.sl (.int .i64))), .c (.int .i64), .c (.fn 92)]
def rs_lim_isSquare__lim_isNet : RS := .c (.bool)
def pk_lim_isSquare__lim_isNet : Bool → RL rs_lim_isSquare__lim_isNet.cells := fun x => (x, ())
def up_lim_isSquare__lim_isNet : RL rs_lim_isSquare__lim_isNet.cells → Bool := fun d => d.1
def R_lim_isSquare__lim_isNet : Nat × Entry := (89, fun k nm args h => entry as_lim_isSquare__lim_isNet rs_lim_isSquare__lim_isNet (fun d => lim_isSquare__lim_isNet k d.1 d.2.1) pk_lim_isSquare__lim_isNet nm args h)
theorem lim_isSquare__lim_isNet_ev (k : Nat) (d : AD as_lim_isSquare__lim_isNet) : evF E_lim_isSquare__lim_isNet A_lim_isSquare__lim_isNet k 1000 0 Proofs.Try.f89 (absArgs as_lim_isSquare__lim_isNet d).1 (absArgs as_lim_isSquare__lim_isNet d).2 (outM rs_lim_isSquare__lim_isNet up_lim_isSquare__lim_isNet) = lim_isSquare__lim_isNet k d.1 d.2.1 := by
  obtain ⟨_, _, _, _⟩ := d
  kernel_rfl
theorem R_lim_isSquare__lim_isNet_ok : EntryOK Proofs.Try.prog R_lim_isSquare__lim_isNet := fun k _ _ _ _ _ hy =>
  entry_sound (unpack := up_lim_isSquare__lim_isNet) (A := A_lim_isSquare__lim_isNet) (k := k) (pre := 1000) (na := 0) (E := E_lim_isSquare__lim_isNet) E_lim_isSquare__lim_isNet_ok E_lim_isSquare__lim_isNet_local mixed_orders (f := 89) (fn := Proofs.Try.f89) (by kernel_rfl) (body_loops (loopsOK_of (n := 1) (by kernel_rfl) fun i hi => match i, hi with | 0, _ => ⟨L_lim_isSquare__lim_isNet_L0, by kernel_rfl, lim_isSquare__lim_isNet_L0_ok⟩ | i + 1, hi => absurd hi (by omega))) (enters (fn := Proofs.Try.f89) (by kernel_rfl) (by kernel_rfl) (by kernel_rfl)) (fun _ => rfl) (lim_isSquare__lim_isNet_ev k) hy
theorem R_lim_isSquare__lim_isNet_local : EntryLocal R_lim_isSquare__lim_isNet.2 := entry_local (S := fun k (d : AD as_lim_isSquare__lim_isNet) => lim_isSquare__lim_isNet k d.1 d.2.1)

/-! ### giro/lim.isTurned -/
noncomputable def E_lim_isTurned : Env := ⟨Proofs.Try.prog, fun _ => false, sumsOf []⟩
def I_lim_isTurned_L1 : Spec := ⟨[(0, .c (.dat false (.sl (.int .i64)))), (3, .c (.int .i64)), (7, .c (.dat false (.sl (.int .i64)))), (8, .c (.int .i64)), (9, .c (.int .i64)), (14, .c (.dat false (.int .i64))), (15, .c (.int .i64)), (16, .c (.int .i64))], [], []⟩
def O_lim_isTurned_L1 : List (Ex × Spec) := [(.exit 2, ⟨[(0, .c (.dat false (.sl (.int .i64)))), (7, .c (.dat false (.sl (.int .i64)))), (8, .c (.int .i64)), (9, .c (.int .i64))], [], []⟩), (.ret, ⟨[(2, .c (.bool))], [], []⟩)]
def T_lim_isTurned_L1 : OutD O_lim_isTurned_L1 → ((List (List Int)) × (List (List Int)) × Int × Int) ⊕ Bool
 | .inl d => .inl (d.1.1.1, d.1.2.1.1, d.1.2.2.1.1, d.1.2.2.2.1.1)
 | .inr d => .inr d.1.1.1
def e_lim_isTurned_L1 (base : Nat) (x : ((List (List Int)) × (List (List Int)) × Int × Int) ⊕ Bool) (R : Type) (K : Ex → St → Option R) : Option R := match x with
 | .inl x => K (.exit 2) (stOf base ⟨[(0, .c (.dat false (.sl (.int .i64)))), (7, .c (.dat false (.sl (.int .i64)))), (8, .c (.int .i64)), (9, .c (.int .i64))], [], []⟩ (((x.1, ()), (x.2.1, ()), (x.2.2.1, ()), (x.2.2.2, ()), ()), ()))
 | .inr x => K .ret (stOf base ⟨[(2, .c (.bool))], [], []⟩ (((x, ()), ()), ()))
def L_lim_isTurned_L1 : LoopSum := ⟨I_lim_isTurned_L1, O_lim_isTurned_L1, ((List (List Int)) × (List (List Int)) × Int × Int) ⊕ Bool, fun k d => lim_isTurned_L1 k k d.1.1.1 d.1.2.1.1 d.1.2.2.1.1 d.1.2.2.2.1.1 d.1.2.2.2.2.1.1 d.1.2.2.2.2.2.1.1 d.1.2.2.2.2.2.2.1.1 d.1.2.2.2.2.2.2.2.1.1, e_lim_isTurned_L1⟩
def I_lim_isTurned_L0 : Spec := ⟨[(0, .c (.dat false (.sl (.int .i64)))), (7, .c (.dat false (.sl (.int .i64)))), (8, .c (.int .i64)), (9, .c (.int .i64))], [], []⟩
def O_lim_isTurned_L0 : List (Ex × Spec) := [(.exit 0, ⟨[], [], []⟩), (.ret, ⟨[(2, .c (.bool))], [], []⟩)]
def T_lim_isTurned_L0 : OutD O_lim_isTurned_L0 → Unit ⊕ Bool
 | .inl d => .inl ()
 | .inr d => .inr d.1.1.1
def e_lim_isTurned_L0 (base : Nat) (x : Unit ⊕ Bool) (R : Type) (K : Ex → St → Option R) : Option R := match x with
 | .inl x => K (.exit 0) (stOf base ⟨[], [], []⟩ ((), ()))
 | .inr x => K .ret (stOf base ⟨[(2, .c (.bool))], [], []⟩ (((x, ()), ()), ()))
def L_lim_isTurned_L0 : LoopSum := ⟨I_lim_isTurned_L0, O_lim_isTurned_L0, Unit ⊕ Bool, fun k d => lim_isTurned_L0 k k d.1.1.1 d.1.2.1.1 d.1.2.2.1.1 d.1.2.2.2.1.1, e_lim_isTurned_L0⟩
def A_lim_isTurned : Notes := ⟨[], [(5, L_lim_isTurned_L1), (2, L_lim_isTurned_L0)]⟩
theorem E_lim_isTurned_ok : EnvOK E_lim_isTurned := ⟨eqOK_none, sumsOf_ok (List.forall_mem_nil _)⟩
theorem E_lim_isTurned_local : SumsLocal E_lim_isTurned.sums := sumsOf_local (List.forall_mem_nil _)
theorem lim_isTurned_L1_step (k : Nat) (rec : List (List Int) → Int → List (List Int) → Int → Int → List Int → Int → Int → Option (((List (List Int)) × (List (List Int)) × Int × Int) ⊕ Bool)) (d : I_lim_isTurned_L1.den) : lim_isTurned_L1b k rec d.1.1.1 d.1.2.1.1 d.1.2.2.1.1 d.1.2.2.2.1.1 d.1.2.2.2.2.1.1 d.1.2.2.2.2.2.1.1 d.1.2.2.2.2.2.2.1.1 d.1.2.2.2.2.2.2.2.1.1 = evC E_lim_isTurned A_lim_isTurned k 1000 0 33 (loopAt (loopAt (bodyOf Proofs.Try.f93) 0) 0) (stOf (1000 + loopBase) I_lim_isTurned_L1 d) (roundK 1000 I_lim_isTurned_L1 O_lim_isTurned_L1 T_lim_isTurned_L1 fun d => rec d.1.1.1 d.1.2.1.1 d.1.2.2.1.1 d.1.2.2.2.1.1 d.1.2.2.2.2.1.1 d.1.2.2.2.2.2.1.1 d.1.2.2.2.2.2.2.1.1 d.1.2.2.2.2.2.2.2.1.1) := by
  obtain ⟨⟨⟨_, _⟩, ⟨_, _⟩, ⟨_, _⟩, ⟨_, _⟩, ⟨_, _⟩, ⟨_, _⟩, ⟨_, _⟩, ⟨_, _⟩, _⟩, _⟩ := d
  kernel_rfl
theorem lim_isTurned_L1_ok : LoopOK Proofs.Try.prog 1000 0 33 (loopAt (loopAt (bodyOf Proofs.Try.f93) 0) 0) L_lim_isTurned_L1 :=
  loop_sound (A := A_lim_isTurned) (inS := I_lim_isTurned_L1) (outs := O_lim_isTurned_L1) E_lim_isTurned_ok E_lim_isTurned_local mixed_orders (loopsOK_none (by kernel_rfl)) T_lim_isTurned_L1 e_lim_isTurned_L1 (by intro o R K; rcases o with o | o <;> rfl) (fun k n d => lim_isTurned_L1 k n d.1.1.1 d.1.2.1.1 d.1.2.2.1.1 d.1.2.2.2.1.1 d.1.2.2.2.2.1.1 d.1.2.2.2.2.2.1.1 d.1.2.2.2.2.2.2.1.1 d.1.2.2.2.2.2.2.2.1.1) (fun _ _ => rfl) (fun k n d => lim_isTurned_L1_step k (lim_isTurned_L1 k n) d)
theorem lim_isTurned_L0_step (k : Nat) (rec : List (List Int) → List (List Int) → Int → Int → Option (Unit ⊕ Bool)) (d : I_lim_isTurned_L0.den) : lim_isTurned_L0b k rec d.1.1.1 d.1.2.1.1 d.1.2.2.1.1 d.1.2.2.2.1.1 = evC E_lim_isTurned A_lim_isTurned k 1000 0 33 (loopAt (bodyOf Proofs.Try.f93) 0) (stOf (1000 + loopBase) I_lim_isTurned_L0 d) (roundK 1000 I_lim_isTurned_L0 O_lim_isTurned_L0 T_lim_isTurned_L0 fun d => rec d.1.1.1 d.1.2.1.1 d.1.2.2.1.1 d.1.2.2.2.1.1) := by
  obtain ⟨⟨⟨_, _⟩, ⟨_, _⟩, ⟨_, _⟩, ⟨_, _⟩, _⟩, _⟩ := d
  kernel_rfl
theorem lim_isTurned_L0_ok : LoopOK Proofs.Try.prog 1000 0 33 (loopAt (bodyOf Proofs.Try.f93) 0) L_lim_isTurned_L0 :=
  loop_sound (A := A_lim_isTurned) (inS := I_lim_isTurned_L0) (outs := O_lim_isTurned_L0) E_lim_isTurned_ok E_lim_isTurned_local mixed_orders (loopsOK_of (n := 1) (by kernel_rfl) fun i hi => match i, hi with | 0, _ => ⟨L_lim_isTurned_L1, by kernel_rfl, lim_isTurned_L1_ok⟩ | i + 1, hi => absurd hi (by omega)) T_lim_isTurned_L0 e_lim_isTurned_L0 (by intro o R K; rcases o with o | o <;> rfl) (fun k n d => lim_isTurned_L0 k n d.1.1.1 d.1.2.1.1 d.1.2.2.1.1 d.1.2.2.2.1.1) (fun _ _ => rfl) (fun k n d => lim_isTurned_L0_step k (lim_isTurned_L0 k n) d)
def as_lim_isTurned : List AS := [.c (.dat false (.sl (.int .i64)))]
def rs_lim_isTurned : RS := .c (.bool)
def pk_lim_isTurned : Bool → RL rs_lim_isTurned.cells := fun x => (x, ())
def up_lim_isTurned : RL rs_lim_isTurned.cells → Bool := fun d => d.1
def R_lim_isTurned : Nat × Entry := (93, fun k nm args h => entry as_lim_isTurned rs_lim_isTurned (fun d => lim_isTurned k d.1) pk_lim_isTurned nm args h)
theorem lim_isTurned_ev (k : Nat) (d : AD as_lim_isTurned) : evF E_lim_isTurned A_lim_isTurned k 1000 0 Proofs.Try.f93 (absArgs as_lim_isTurned d).1 (absArgs as_lim_isTurned d).2 (outM rs_lim_isTurned up_lim_isTurned) = lim_isTurned k d.1 := by
  obtain ⟨_, _⟩ := d
  kernel_rfl
theorem R_lim_isTurned_ok : EntryOK Proofs.Try.prog R_lim_isTurned := fun k _ _ _ _ _ hy =>
  entry_sound (unpack := up_lim_isTurned) (A := A_lim_isTurned) (k := k) (pre := 1000) (na := 0) (E := E_lim_isTurned) E_lim_isTurned_ok E_lim_isTurned_local mixed_orders (f := 93) (fn := Proofs.Try.f93) (by kernel_rfl) (body_loops (loopsOK_of (n := 1) (by kernel_rfl) fun i hi => match i, hi with | 0, _ => ⟨L_lim_isTurned_L0, by kernel_rfl, lim_isTurned_L0_ok⟩ | i + 1, hi => absurd hi (by omega))) (enters (fn := Proofs.Try.f93) (by kernel_rfl) (by kernel_rfl) (by kernel_rfl)) (fun _ => rfl) (lim_isTurned_ev k) hy
theorem R_lim_isTurned_local : EntryLocal R_lim_isTurned.2 := entry_local (S := fun k (d : AD as_lim_isTurned) => lim_isTurned k d.1)

/-! ### giro/lim.Is -/
noncomputable def E_lim_Is : Env := ⟨Proofs.Try.prog, fun _ => false, sumsOf [R_slices_ContainsFunc_Acct__lim_Is_fn1, R_lim_isSquare__lim_isLimit, R_lim_isRow__lim_isLimit, R_lim_isSquare__lim_isNet, R_lim_isTurned]⟩
def A_lim_Is : Notes := ⟨[], []⟩
theorem E_lim_Is_ok : EnvOK E_lim_Is := ⟨eqOK_none, sumsOf_ok (List.forall_mem_cons.2 ⟨R_slices_ContainsFunc_Acct__lim_Is_fn1_ok, List.forall_mem_cons.2 ⟨R_lim_isSquare__lim_isLimit_ok, List.forall_mem_cons.2 ⟨R_lim_isRow__lim_isLimit_ok, List.forall_mem_cons.2 ⟨R_lim_isSquare__lim_isNet_ok, List.forall_mem_cons.2 ⟨R_lim_isTurned_ok, List.forall_mem_nil _⟩⟩⟩⟩⟩)⟩
theorem E_lim_Is_local : SumsLocal E_lim_Is.sums := sumsOf_local (List.forall_mem_cons.2 ⟨R_slices_ContainsFunc_Acct__lim_Is_fn1_local, List.forall_mem_cons.2 ⟨R_lim_isSquare__lim_isLimit_local, List.forall_mem_cons.2 ⟨R_lim_isRow__lim_isLimit_local, List.forall_mem_cons.2 ⟨R_lim_isSquare__lim_isNet_local, List.forall_mem_cons.2 ⟨R_lim_isTurned_local, List.forall_mem_nil _⟩⟩⟩⟩⟩)
def as_lim_Is : List AS := [.agg [.dat false (.pair (.int .i64) (.pair (.int .i64) (.int .i64))), .dat false (.sl (.int .i64)), .dat false (.int .i64), .dat false (.sl (.int .i64))]]
def rs_lim_Is : RS := .c (.bool)
def pk_lim_Is : Bool → RL rs_lim_Is.cells := fun x => (x, ())
def up_lim_Is : RL rs_lim_Is.cells → Bool := fun d => d.1
def R_lim_Is : Nat × Entry := (59, fun k nm args h => entry as_lim_Is rs_lim_Is (fun d => lim_Is k d.1 d.2.1 d.2.2.1 d.2.2.2.1) pk_lim_Is nm args h)
theorem lim_Is_ev (k : Nat) (d : AD as_lim_Is) : evF E_lim_Is A_lim_Is k 1000 0 Proofs.Try.f59 (absArgs as_lim_Is d).1 (absArgs as_lim_Is d).2 (outM rs_lim_Is up_lim_Is) = lim_Is k d.1 d.2.1 d.2.2.1 d.2.2.2.1 := by
  obtain ⟨_, _, _, _, _⟩ := d
  kernel_rfl
theorem R_lim_Is_ok : EntryOK Proofs.Try.prog R_lim_Is := fun k _ _ _ _ _ hy =>
  entry_sound (unpack := up_lim_Is) (A := A_lim_Is) (k := k) (pre := 1000) (na := 0) (E := E_lim_Is) E_lim_Is_ok E_lim_Is_local mixed_orders (f := 59) (fn := Proofs.Try.f59) (by kernel_rfl) (body_loops (loopsOK_none (by kernel_rfl))) (enters (fn := Proofs.Try.f59) (by kernel_rfl) (by kernel_rfl) (by kernel_rfl)) (fun _ => rfl) (lim_Is_ev k) hy
theorem R_lim_Is_local : EntryLocal R_lim_Is.2 := entry_local (S := fun k (d : AD as_lim_Is) => lim_Is k d.1 d.2.1 d.2.2.1 d.2.2.2.1)

/-! ### slices.Clone[[]giro/api.Acct,giro/api.Acct] -/
noncomputable def E_slices_Clone_Acct : Env := ⟨Proofs.Try.prog, fun _ => false, sumsOf []⟩
def A_slices_Clone_Acct : Notes := ⟨[], []⟩
theorem E_slices_Clone_Acct_ok : EnvOK E_slices_Clone_Acct := ⟨eqOK_none, sumsOf_ok (List.forall_mem_nil _)⟩
theorem E_slices_Clone_Acct_local : SumsLocal E_slices_Clone_Acct.sums := sumsOf_local (List.forall_mem_nil _)
def as_slices_Clone_Acct : List AS := [.c (.dat false (.pair (.int .i64) (.pair (.int .i64) (.int .i64))))]
def rs_slices_Clone_Acct : RS := .c (.own (.pair (.int .i64) (.pair (.int .i64) (.int .i64))))
def pk_slices_Clone_Acct : List (Int × Int × Int) → RL rs_slices_Clone_Acct.cells := fun x => (x, ())
def up_slices_Clone_Acct : RL rs_slices_Clone_Acct.cells → List (Int × Int × Int) := fun d => d.1
def R_slices_Clone_Acct : Nat × Entry := (60, fun k nm args h => entry as_slices_Clone_Acct rs_slices_Clone_Acct (fun d => slices_Clone_Acct k d.1) pk_slices_Clone_Acct nm args h)
theorem slices_Clone_Acct_nil (k : Nat) : evF E_slices_Clone_Acct A_slices_Clone_Acct k 1000 0 Proofs.Try.f60 [.c .nsl] (boxHp []) (outM rs_slices_Clone_Acct up_slices_Clone_Acct) = slices_Clone_Acct k [] := by kernel_rfl
theorem slices_Clone_Acct_ev (k : Nat) (xs : List (Int × Int × Int)) : evF E_slices_Clone_Acct A_slices_Clone_Acct k 1000 0 Proofs.Try.f60 [.c (.nfl false (.pair (.int .i64) (.pair (.int .i64) (.int .i64))) xs)] (boxHp []) (outM rs_slices_Clone_Acct up_slices_Clone_Acct) = slices_Clone_Acct k xs := by kernel_rfl
theorem R_slices_Clone_Acct_ok : EntryOK Proofs.Try.prog R_slices_Clone_Acct := fun k _ _ _ _ _ hy =>
  entry_nil (t := (.pair (.int .i64) (.pair (.int .i64) (.int .i64)))) (S := fun xs => slices_Clone_Acct k xs) (unpack := up_slices_Clone_Acct) (A := A_slices_Clone_Acct) (k := k) (pre := 1000) (na := 0) (E := E_slices_Clone_Acct) E_slices_Clone_Acct_ok E_slices_Clone_Acct_local mixed_orders (f := 60) (fn := Proofs.Try.f60) (by kernel_rfl) (body_loops (loopsOK_none (by kernel_rfl))) (enters (fn := Proofs.Try.f60) (by kernel_rfl) (by kernel_rfl) (by kernel_rfl)) (fun _ => rfl) (fun x hx => (slices_Clone_Acct_nil k).trans hx) (fun xs x hx => (slices_Clone_Acct_ev k xs).trans hx) hy
theorem R_slices_Clone_Acct_local : EntryLocal R_slices_Clone_Acct.2 := entry_local (S := fun k (d : AD as_slices_Clone_Acct) => slices_Clone_Acct k d.1)

/-! ### slices.Clone[[][]int64,[]int64] -/
noncomputable def E_slices_Clone_Rowint64 : Env := ⟨Proofs.Try.prog, fun _ => false, sumsOf []⟩
def A_slices_Clone_Rowint64 : Notes := ⟨[], []⟩
theorem E_slices_Clone_Rowint64_ok : EnvOK E_slices_Clone_Rowint64 := ⟨eqOK_none, sumsOf_ok (List.forall_mem_nil _)⟩
theorem E_slices_Clone_Rowint64_local : SumsLocal E_slices_Clone_Rowint64.sums := sumsOf_local (List.forall_mem_nil _)
def as_slices_Clone_Rowint64 : List AS := [.c (.dat true (.sl (.int .i64)))]
def rs_slices_Clone_Rowint64 : RS := .c (.jun)
def pk_slices_Clone_Rowint64 : Nat → RL rs_slices_Clone_Rowint64.cells := fun x => (x, ())
def up_slices_Clone_Rowint64 : RL rs_slices_Clone_Rowint64.cells → Nat := fun d => d.1
def R_slices_Clone_Rowint64 : Nat × Entry := (94, fun k nm args h => entry as_slices_Clone_Rowint64 rs_slices_Clone_Rowint64 (fun d => slices_Clone_Rowint64 k d.1) pk_slices_Clone_Rowint64 nm args h)
theorem slices_Clone_Rowint64_nil (k : Nat) : evF E_slices_Clone_Rowint64 A_slices_Clone_Rowint64 k 1000 0 Proofs.Try.f94 [.c .nsl] (boxHp []) (outM rs_slices_Clone_Rowint64 up_slices_Clone_Rowint64) = slices_Clone_Rowint64 k [] := by kernel_rfl
theorem slices_Clone_Rowint64_ev (k : Nat) (xs : List (List Int)) : evF E_slices_Clone_Rowint64 A_slices_Clone_Rowint64 k 1000 0 Proofs.Try.f94 [.c (.nfl true (.sl (.int .i64)) xs)] (boxHp []) (outM rs_slices_Clone_Rowint64 up_slices_Clone_Rowint64) = slices_Clone_Rowint64 k xs := by kernel_rfl
theorem R_slices_Clone_Rowint64_ok : EntryOK Proofs.Try.prog R_slices_Clone_Rowint64 := fun k _ _ _ _ _ hy =>
  entry_nil (t := (.sl (.int .i64))) (S := fun xs => slices_Clone_Rowint64 k xs) (unpack := up_slices_Clone_Rowint64) (A := A_slices_Clone_Rowint64) (k := k) (pre := 1000) (na := 0) (E := E_slices_Clone_Rowint64) E_slices_Clone_Rowint64_ok E_slices_Clone_Rowint64_local mixed_orders (f := 94) (fn := Proofs.Try.f94) (by kernel_rfl) (body_loops (loopsOK_none (by kernel_rfl))) (enters (fn := Proofs.Try.f94) (by kernel_rfl) (by kernel_rfl) (by kernel_rfl)) (fun _ => rfl) (fun x hx => (slices_Clone_Rowint64_nil k).trans hx) (fun xs x hx => (slices_Clone_Rowint64_ev k xs).trans hx) hy
theorem R_slices_Clone_Rowint64_local : EntryLocal R_slices_Clone_Rowint64.2 := entry_local (S := fun k (d : AD as_slices_Clone_Rowint64) => slices_Clone_Rowint64 k d.1)

/-! ### slices.Clone[[]int64,int64] -/
noncomputable def E_slices_Clone_int64 : Env := ⟨Proofs.Try.prog, fun _ => false, sumsOf []⟩
def A_slices_Clone_int64 : Notes := ⟨[], []⟩
theorem E_slices_Clone_int64_ok : EnvOK E_slices_Clone_int64 := ⟨eqOK_none, sumsOf_ok (List.forall_mem_nil _)⟩
theorem E_slices_Clone_int64_local : SumsLocal E_slices_Clone_int64.sums := sumsOf_local (List.forall_mem_nil _)
def as_slices_Clone_int64 : List AS := [.c (.dat false (.int .i64))]
def rs_slices_Clone_int64 : RS := .c (.own (.int .i64))
def pk_slices_Clone_int64 : List Int → RL rs_slices_Clone_int64.cells := fun x => (x, ())
def up_slices_Clone_int64 : RL rs_slices_Clone_int64.cells → List Int := fun d => d.1
def R_slices_Clone_int64 : Nat × Entry := (62, fun k nm args h => entry as_slices_Clone_int64 rs_slices_Clone_int64 (fun d => slices_Clone_int64 k d.1) pk_slices_Clone_int64 nm args h)
theorem slices_Clone_int64_nil (k : Nat) : evF E_slices_Clone_int64 A_slices_Clone_int64 k 1000 0 Proofs.Try.f62 [.c .nsl] (boxHp []) (outM rs_slices_Clone_int64 up_slices_Clone_int64) = slices_Clone_int64 k [] := by kernel_rfl
theorem slices_Clone_int64_ev (k : Nat) (xs : List Int) : evF E_slices_Clone_int64 A_slices_Clone_int64 k 1000 0 Proofs.Try.f62 [.c (.nfl false (.int .i64) xs)] (boxHp []) (outM rs_slices_Clone_int64 up_slices_Clone_int64) = slices_Clone_int64 k xs := by kernel_rfl
theorem R_slices_Clone_int64_ok : EntryOK Proofs.Try.prog R_slices_Clone_int64 := fun k _ _ _ _ _ hy =>
  entry_nil (t := (.int .i64)) (S := fun xs => slices_Clone_int64 k xs) (unpack := up_slices_Clone_int64) (A := A_slices_Clone_int64) (k := k) (pre := 1000) (na := 0) (E := E_slices_Clone_int64) E_slices_Clone_int64_ok E_slices_Clone_int64_local mixed_orders (f := 62) (fn := Proofs.Try.f62) (by kernel_rfl) (body_loops (loopsOK_none (by kernel_rfl))) (enters (fn := Proofs.Try.f62) (by kernel_rfl) (by kernel_rfl) (by kernel_rfl)) (fun _ => rfl) (fun x hx => (slices_Clone_int64_nil k).trans hx) (fun xs x hx => (slices_Clone_int64_ev k xs).trans hx) hy
theorem R_slices_Clone_int64_local : EntryLocal R_slices_Clone_int64.2 := entry_local (S := fun k (d : AD as_slices_Clone_int64) => slices_Clone_int64 k d.1)

/-! ### giro/lim.copied -/
noncomputable def E_lim_copied : Env := ⟨Proofs.Try.prog, fun _ => false, sumsOf [R_slices_Clone_Rowint64, R_slices_Clone_int64]⟩
def I_lim_copied_L0 : Spec := ⟨[(3, .c (.lit (.osl 1001000 none))), (8, .c (.dat true (.sl (.int .i64)))), (9, .c (.int .i64)), (10, .c (.int .i64))], [.pmat], []⟩
def O_lim_copied_L0 : List (Ex × Spec) := [(.exit 0, ⟨[(3, .c (.lit (.osl 1001000 none)))], [.pmat], []⟩)]
def T_lim_copied_L0 : OutD O_lim_copied_L0 → (List (List Int)) × Nat := fun d => (d.2.1.1, d.2.1.2)
def e_lim_copied_L0 (base : Nat) (x : (List (List Int)) × Nat) (R : Type) (K : Ex → St → Option R) : Option R := K (.exit 0) (stOf base ⟨[(3, .c (.lit (.osl 1001000 none)))], [.pmat], []⟩ (((), ()), ((x.1, x.2), ())))
def L_lim_copied_L0 : LoopSum := ⟨I_lim_copied_L0, O_lim_copied_L0, (List (List Int)) × Nat, fun k d => lim_copied_L0 k k d.1.2.1.1 d.1.2.2.1.1 d.1.2.2.2.1.1 d.2.1.1 d.2.1.2, e_lim_copied_L0⟩
def A_lim_copied : Notes := ⟨[], [(3, L_lim_copied_L0)]⟩
theorem E_lim_copied_ok : EnvOK E_lim_copied := ⟨eqOK_none, sumsOf_ok (List.forall_mem_cons.2 ⟨R_slices_Clone_Rowint64_ok, List.forall_mem_cons.2 ⟨R_slices_Clone_int64_ok, List.forall_mem_nil _⟩⟩)⟩
theorem E_lim_copied_local : SumsLocal E_lim_copied.sums := sumsOf_local (List.forall_mem_cons.2 ⟨R_slices_Clone_Rowint64_local, List.forall_mem_cons.2 ⟨R_slices_Clone_int64_local, List.forall_mem_nil _⟩⟩)
theorem lim_copied_L0_step (k : Nat) (rec : List (List Int) → Int → Int → List (List Int) → Nat → Option ((List (List Int)) × Nat)) (d : I_lim_copied_L0.den) : lim_copied_L0b k rec d.1.2.1.1 d.1.2.2.1.1 d.1.2.2.2.1.1 d.2.1.1 d.2.1.2 = evC E_lim_copied A_lim_copied k 1000 0 22 (loopAt (bodyOf Proofs.Try.f61) 0) (stOf (1000 + loopBase) I_lim_copied_L0 d) (roundK 1000 I_lim_copied_L0 O_lim_copied_L0 T_lim_copied_L0 fun d => rec d.1.2.1.1 d.1.2.2.1.1 d.1.2.2.2.1.1 d.2.1.1 d.2.1.2) := by
  obtain ⟨⟨_, ⟨_, _⟩, ⟨_, _⟩, ⟨_, _⟩, _⟩, ⟨_, _⟩⟩ := d
  kernel_rfl
theorem lim_copied_L0_ok : LoopOK Proofs.Try.prog 1000 0 22 (loopAt (bodyOf Proofs.Try.f61) 0) L_lim_copied_L0 :=
  loop_sound (A := A_lim_copied) (inS := I_lim_copied_L0) (outs := O_lim_copied_L0) E_lim_copied_ok E_lim_copied_local mixed_orders (loopsOK_none (by kernel_rfl)) T_lim_copied_L0 e_lim_copied_L0 (fun _ _ _ => rfl) (fun k n d => lim_copied_L0 k n d.1.2.1.1 d.1.2.2.1.1 d.1.2.2.2.1.1 d.2.1.1 d.2.1.2) (fun _ _ => rfl) (fun k n d => lim_copied_L0_step k (lim_copied_L0 k n) d)
def as_lim_copied : List AS := [.c (.dat true (.sl (.int .i64)))]
def rs_lim_copied : RS := .c (.mat)
def pk_lim_copied : List (List Int) → RL rs_lim_copied.cells := fun x => (x, ())
def up_lim_copied : RL rs_lim_copied.cells → List (List Int) := fun d => d.1
def R_lim_copied : Nat × Entry := (61, fun k nm args h => entry as_lim_copied rs_lim_copied (fun d => lim_copied k d.1) pk_lim_copied nm args h)
theorem lim_copied_ev (k : Nat) (d : AD as_lim_copied) : evF E_lim_copied A_lim_copied k 1000 0 Proofs.Try.f61 (absArgs as_lim_copied d).1 (absArgs as_lim_copied d).2 (outM rs_lim_copied up_lim_copied) = lim_copied k d.1 := by
  obtain ⟨_, _⟩ := d
  kernel_rfl
theorem R_lim_copied_ok : EntryOK Proofs.Try.prog R_lim_copied := fun k _ _ _ _ _ hy =>
  entry_sound (unpack := up_lim_copied) (A := A_lim_copied) (k := k) (pre := 1000) (na := 0) (E := E_lim_copied) E_lim_copied_ok E_lim_copied_local mixed_orders (f := 61) (fn := Proofs.Try.f61) (by kernel_rfl) (body_loops (loopsOK_of (n := 1) (by kernel_rfl) fun i hi => match i, hi with | 0, _ => ⟨L_lim_copied_L0, by kernel_rfl, lim_copied_L0_ok⟩ | i + 1, hi => absurd hi (by omega))) (enters (fn := Proofs.Try.f61) (by kernel_rfl) (by kernel_rfl) (by kernel_rfl)) (fun _ => rfl) (lim_copied_ev k) hy
theorem R_lim_copied_local : EntryLocal R_lim_copied.2 := entry_local (S := fun k (d : AD as_lim_copied) => lim_copied k d.1)

/-! ### giro/lim.Copy -/
noncomputable def E_lim_Copy : Env := ⟨Proofs.Try.prog, fun _ => false, sumsOf [R_slices_Clone_Acct, R_lim_copied, R_slices_Clone_int64]⟩
def A_lim_Copy : Notes := ⟨[], []⟩
theorem E_lim_Copy_ok : EnvOK E_lim_Copy := ⟨eqOK_none, sumsOf_ok (List.forall_mem_cons.2 ⟨R_slices_Clone_Acct_ok, List.forall_mem_cons.2 ⟨R_lim_copied_ok, List.forall_mem_cons.2 ⟨R_slices_Clone_int64_ok, List.forall_mem_nil _⟩⟩⟩)⟩
theorem E_lim_Copy_local : SumsLocal E_lim_Copy.sums := sumsOf_local (List.forall_mem_cons.2 ⟨R_slices_Clone_Acct_local, List.forall_mem_cons.2 ⟨R_lim_copied_local, List.forall_mem_cons.2 ⟨R_slices_Clone_int64_local, List.forall_mem_nil _⟩⟩⟩)
def as_lim_Copy : List AS := [.agg [.dat false (.pair (.int .i64) (.pair (.int .i64) (.int .i64))), .dat true (.sl (.int .i64)), .dat false (.int .i64), .dat true (.sl (.int .i64))]]
def rs_lim_Copy : RS := .agg [.own (.pair (.int .i64) (.pair (.int .i64) (.int .i64))), .mat, .own (.int .i64), .mat]
def pk_lim_Copy : (List (Int × Int × Int)) × (List (List Int)) × (List Int) × (List (List Int)) → RL rs_lim_Copy.cells := fun x => (x.1, x.2.1, x.2.2.1, x.2.2.2, ())
def up_lim_Copy : RL rs_lim_Copy.cells → (List (Int × Int × Int)) × (List (List Int)) × (List Int) × (List (List Int)) := fun d => (d.1, d.2.1, d.2.2.1, d.2.2.2.1)
def R_lim_Copy : Nat × Entry := (20, fun k nm args h => entry as_lim_Copy rs_lim_Copy (fun d => lim_Copy k d.1 d.2.1 d.2.2.1 d.2.2.2.1) pk_lim_Copy nm args h)
theorem lim_Copy_ev (k : Nat) (d : AD as_lim_Copy) : evF E_lim_Copy A_lim_Copy k 1000 0 Proofs.Try.f20 (absArgs as_lim_Copy d).1 (absArgs as_lim_Copy d).2 (outM rs_lim_Copy up_lim_Copy) = lim_Copy k d.1 d.2.1 d.2.2.1 d.2.2.2.1 := by
  obtain ⟨_, _, _, _, _⟩ := d
  kernel_rfl
theorem R_lim_Copy_ok : EntryOK Proofs.Try.prog R_lim_Copy := fun k _ _ _ _ _ hy =>
  entry_sound (unpack := up_lim_Copy) (A := A_lim_Copy) (k := k) (pre := 1000) (na := 0) (E := E_lim_Copy) E_lim_Copy_ok E_lim_Copy_local mixed_orders (f := 20) (fn := Proofs.Try.f20) (by kernel_rfl) (body_loops (loopsOK_none (by kernel_rfl))) (enters (fn := Proofs.Try.f20) (by kernel_rfl) (by kernel_rfl) (by kernel_rfl)) (fun _ => rfl) (lim_Copy_ev k) hy
theorem R_lim_Copy_local : EntryLocal R_lim_Copy.2 := entry_local (S := fun k (d : AD as_lim_Copy) => lim_Copy k d.1 d.2.1 d.2.2.1 d.2.2.2.1)

/-! ### giro/pay.Ready -/
noncomputable def E_pay_Ready : Env := ⟨Proofs.Try.prog, fun _ => false, sumsOf []⟩
def A_pay_Ready : Notes := ⟨[], []⟩
theorem E_pay_Ready_ok : EnvOK E_pay_Ready := ⟨eqOK_none, sumsOf_ok (List.forall_mem_nil _)⟩
theorem E_pay_Ready_local : SumsLocal E_pay_Ready.sums := sumsOf_local (List.forall_mem_nil _)
def as_pay_Ready : List AS := [.agg [.int .i64, .int .i64, .int .i64, .int .i64, .int .i64, .int .i64, .int .i64], .c (.int .i64)]
def rs_pay_Ready : RS := .c (.bool)
def pk_pay_Ready : Bool → RL rs_pay_Ready.cells := fun x => (x, ())
def up_pay_Ready : RL rs_pay_Ready.cells → Bool := fun d => d.1
def R_pay_Ready : Nat × Entry := (128, fun k nm args h => entry as_pay_Ready rs_pay_Ready (fun d => pay_Ready k d.1 d.2.1 d.2.2.1 d.2.2.2.1 d.2.2.2.2.1 d.2.2.2.2.2.1 d.2.2.2.2.2.2.1 d.2.2.2.2.2.2.2.1) pk_pay_Ready nm args h)
theorem pay_Ready_ev (k : Nat) (d : AD as_pay_Ready) : evF E_pay_Ready A_pay_Ready k 1000 0 Proofs.Try.f128 (absArgs as_pay_Ready d).1 (absArgs as_pay_Ready d).2 (outM rs_pay_Ready up_pay_Ready) = pay_Ready k d.1 d.2.1 d.2.2.1 d.2.2.2.1 d.2.2.2.2.1 d.2.2.2.2.2.1 d.2.2.2.2.2.2.1 d.2.2.2.2.2.2.2.1 := by
  obtain ⟨_, _, _, _, _, _, _, _, _⟩ := d
  kernel_rfl
theorem R_pay_Ready_ok : EntryOK Proofs.Try.prog R_pay_Ready := fun k _ _ _ _ _ hy =>
  entry_sound (unpack := up_pay_Ready) (A := A_pay_Ready) (k := k) (pre := 1000) (na := 0) (E := E_pay_Ready) E_pay_Ready_ok E_pay_Ready_local mixed_orders (f := 128) (fn := Proofs.Try.f128) (by kernel_rfl) (body_loops (loopsOK_none (by kernel_rfl))) (enters (fn := Proofs.Try.f128) (by kernel_rfl) (by kernel_rfl) (by kernel_rfl)) (fun _ => rfl) (pay_Ready_ev k) hy
theorem R_pay_Ready_local : EntryLocal R_pay_Ready.2 := entry_local (S := fun k (d : AD as_pay_Ready) => pay_Ready k d.1 d.2.1 d.2.2.1 d.2.2.2.1 d.2.2.2.2.1 d.2.2.2.2.2.1 d.2.2.2.2.2.2.1 d.2.2.2.2.2.2.2.1)

/-! ### giro/view.Ready$1 -/
noncomputable def E_view_Ready_fn1 : Env := ⟨Proofs.Try.prog, fun _ => false, sumsOf [R_pay_Ready]⟩
def A_view_Ready_fn1 : Notes := ⟨[], []⟩
theorem E_view_Ready_fn1_ok : EnvOK E_view_Ready_fn1 := ⟨eqOK_none, sumsOf_ok (List.forall_mem_cons.2 ⟨R_pay_Ready_ok, List.forall_mem_nil _⟩)⟩
theorem E_view_Ready_fn1_local : SumsLocal E_view_Ready_fn1.sums := sumsOf_local (List.forall_mem_cons.2 ⟨R_pay_Ready_local, List.forall_mem_nil _⟩)
def as_view_Ready_fn1 : List AS := [.agg [.int .i64, .int .i64, .int .i64, .int .i64, .int .i64, .int .i64, .int .i64], .ptr [.int .i64]]
def rs_view_Ready_fn1 : RS := .c (.bool)
def pk_view_Ready_fn1 : Bool → RL rs_view_Ready_fn1.cells := fun x => (x, ())
def up_view_Ready_fn1 : RL rs_view_Ready_fn1.cells → Bool := fun d => d.1
def R_view_Ready_fn1 : Nat × Entry := (127, fun k nm args h => entry as_view_Ready_fn1 rs_view_Ready_fn1 (fun d => view_Ready_fn1 k d.1 d.2.1 d.2.2.1 d.2.2.2.1 d.2.2.2.2.1 d.2.2.2.2.2.1 d.2.2.2.2.2.2.1 d.2.2.2.2.2.2.2.1) pk_view_Ready_fn1 nm args h)
theorem view_Ready_fn1_ev (k : Nat) (d : AD as_view_Ready_fn1) : evF E_view_Ready_fn1 A_view_Ready_fn1 k 1000 0 Proofs.Try.f127 (absArgs as_view_Ready_fn1 d).1 (absArgs as_view_Ready_fn1 d).2 (outM rs_view_Ready_fn1 up_view_Ready_fn1) = view_Ready_fn1 k d.1 d.2.1 d.2.2.1 d.2.2.2.1 d.2.2.2.2.1 d.2.2.2.2.2.1 d.2.2.2.2.2.2.1 d.2.2.2.2.2.2.2.1 := by
  obtain ⟨_, _, _, _, _, _, _, _, _⟩ := d
  kernel_rfl
theorem R_view_Ready_fn1_ok : EntryOK Proofs.Try.prog R_view_Ready_fn1 := fun k _ _ _ _ _ hy =>
  entry_sound (unpack := up_view_Ready_fn1) (A := A_view_Ready_fn1) (k := k) (pre := 1000) (na := 0) (E := E_view_Ready_fn1) E_view_Ready_fn1_ok E_view_Ready_fn1_local mixed_orders (f := 127) (fn := Proofs.Try.f127) (by kernel_rfl) (body_loops (loopsOK_none (by kernel_rfl))) (enters (fn := Proofs.Try.f127) (by kernel_rfl) (by kernel_rfl) (by kernel_rfl)) (fun _ => rfl) (view_Ready_fn1_ev k) hy
theorem R_view_Ready_fn1_local : EntryLocal R_view_Ready_fn1.2 := entry_local (S := fun k (d : AD as_view_Ready_fn1) => view_Ready_fn1 k d.1 d.2.1 d.2.2.1 d.2.2.2.1 d.2.2.2.2.1 d.2.2.2.2.2.1 d.2.2.2.2.2.2.1 d.2.2.2.2.2.2.2.1)

/-! ### giro/view.all -/
noncomputable def E_view_all__view_Ready_fn1 : Env := ⟨Proofs.Try.prog, fun _ => false, sumsOf [R_view_Ready_fn1]⟩
def I_view_all__view_Ready_fn1_L0 : Spec := ⟨[(1, .c (.lit (.fn 127 [1001000]))), (5, .c (.lit (.osl 1001001 none))), (8, .c (.dat false (.pair (.int .i64) (.pair (.int .i64) (.pair (.int .i64) (.pair (.int .i64) (.pair (.int .i64) (.pair (.int .i64) (.int .i64))))))))), (9, .c (.int .i64)), (10, .c (.int .i64))], [.robox [.int .i64], .arr true (.pair (.int .i64) (.pair (.int .i64) (.pair (.int .i64) (.pair (.int .i64) (.pair (.int .i64) (.pair (.int .i64) (.int .i64)))))))], [(5, none, (.pair (.int .i64) (.pair (.int .i64) (.pair (.int .i64) (.pair (.int .i64) (.pair (.int .i64) (.pair (.int .i64) (.int .i64))))))), false)]⟩
def O_view_all__view_Ready_fn1_L0 : List (Ex × Spec) := [(.exit 0, ⟨[(5, .c (.lit (.osl 1001000 none)))], [.arr true (.pair (.int .i64) (.pair (.int .i64) (.pair (.int .i64) (.pair (.int .i64) (.pair (.int .i64) (.pair (.int .i64) (.int .i64)))))))], []⟩)]
def T_view_all__view_Ready_fn1_L0 : OutD O_view_all__view_Ready_fn1_L0 → List (Int × Int × Int × Int × Int × Int × Int) := fun d => d.2.1
def e_view_all__view_Ready_fn1_L0 (base : Nat) (x : List (Int × Int × Int × Int × Int × Int × Int)) (R : Type) (K : Ex → St → Option R) : Option R := K (.exit 0) (stOf base ⟨[(5, .c (.lit (.osl 1001000 none)))], [.arr true (.pair (.int .i64) (.pair (.int .i64) (.pair (.int .i64) (.pair (.int .i64) (.pair (.int .i64) (.pair (.int .i64) (.int .i64)))))))], []⟩ (((), ()), (x, ())))
def L_view_all__view_Ready_fn1_L0 : LoopSum := ⟨I_view_all__view_Ready_fn1_L0, O_view_all__view_Ready_fn1_L0, List (Int × Int × Int × Int × Int × Int × Int), fun k d => view_all__view_Ready_fn1_L0 k k d.1.2.2.1.1 d.1.2.2.2.1.1 d.1.2.2.2.2.1.1 d.2.1.1 d.2.2.1, e_view_all__view_Ready_fn1_L0⟩
def A_view_all__view_Ready_fn1 : Notes := ⟨[], [(3, L_view_all__view_Ready_fn1_L0)]⟩
theorem E_view_all__view_Ready_fn1_ok : EnvOK E_view_all__view_Ready_fn1 := ⟨eqOK_none, sumsOf_ok (List.forall_mem_cons.2 ⟨R_view_Ready_fn1_ok, List.forall_mem_nil _⟩)⟩
theorem E_view_all__view_Ready_fn1_local : SumsLocal E_view_all__view_Ready_fn1.sums := sumsOf_local (List.forall_mem_cons.2 ⟨R_view_Ready_fn1_local, List.forall_mem_nil _⟩)
theorem view_all__view_Ready_fn1_L0_step (k : Nat) (rec : List (Int × Int × Int × Int × Int × Int × Int) → Int → Int → Int → List (Int × Int × Int × Int × Int × Int × Int) → Option (List (Int × Int × Int × Int × Int × Int × Int))) (d : I_view_all__view_Ready_fn1_L0.den) : view_all__view_Ready_fn1_L0b k rec d.1.2.2.1.1 d.1.2.2.2.1.1 d.1.2.2.2.2.1.1 d.2.1.1 d.2.2.1 = evC E_view_all__view_Ready_fn1 A_view_all__view_Ready_fn1 k 1000 0 23 (loopAt (bodyOf Proofs.Try.f113) 0) (stOf (1000 + loopBase) I_view_all__view_Ready_fn1_L0 d) (roundK 1000 I_view_all__view_Ready_fn1_L0 O_view_all__view_Ready_fn1_L0 T_view_all__view_Ready_fn1_L0 fun d => rec d.1.2.2.1.1 d.1.2.2.2.1.1 d.1.2.2.2.2.1.1 d.2.1.1 d.2.2.1) := by
  obtain ⟨⟨_, _, ⟨_, _⟩, ⟨_, _⟩, ⟨_, _⟩, _⟩, ⟨⟨_, _⟩, _, _⟩⟩ := d
  kernel_rfl
theorem view_all__view_Ready_fn1_L0_ok : LoopOK Proofs.Try.prog 1000 0 23 (loopAt (bodyOf Proofs.Try.f113) 0) L_view_all__view_Ready_fn1_L0 :=
  loop_sound (A := A_view_all__view_Ready_fn1) (inS := I_view_all__view_Ready_fn1_L0) (outs := O_view_all__view_Ready_fn1_L0) E_view_all__view_Ready_fn1_ok E_view_all__view_Ready_fn1_local mixed_orders (loopsOK_none (by kernel_rfl)) T_view_all__view_Ready_fn1_L0 e_view_all__view_Ready_fn1_L0 (fun _ _ _ => rfl) (fun k n d => view_all__view_Ready_fn1_L0 k n d.1.2.2.1.1 d.1.2.2.2.1.1 d.1.2.2.2.2.1.1 d.2.1.1 d.2.2.1) (fun _ _ => rfl) (fun k n d => view_all__view_Ready_fn1_L0_step k (view_all__view_Ready_fn1_L0 k n) d)
def as_view_all__view_Ready_fn1 : List AS := [.c (.dat false (.pair (.int .i64) (.pair (.int .i64) (.pair (.int .i64) (.pair (.int .i64) (.pair (.int .i64) (.pair (.int .i64) (.int .i64)))))))), .fn 127 [[.int .i64]]]
def rs_view_all__view_Ready_fn1 : RS := .c (.own (.pair (.int .i64) (.pair (.int .i64) (.pair (.int .i64) (.pair (.int .i64) (.pair (.int .i64) (.pair (.int .i64) (.int .i64))))))))
def pk_view_all__view_Ready_fn1 : List (Int × Int × Int × Int × Int × Int × Int) → RL rs_view_all__view_Ready_fn1.cells := fun x => (x, ())
def up_view_all__view_Ready_fn1 : RL rs_view_all__view_Ready_fn1.cells → List (Int × Int × Int × Int × Int × Int × Int) := fun d => d.1
def R_view_all__view_Ready_fn1 : Nat × Entry := (113, fun k nm args h => entry as_view_all__view_Ready_fn1 rs_view_all__view_Ready_fn1 (fun d => view_all__view_Ready_fn1 k d.1 d.2.1) pk_view_all__view_Ready_fn1 nm args h)
theorem view_all__view_Ready_fn1_ev (k : Nat) (d : AD as_view_all__view_Ready_fn1) : evF E_view_all__view_Ready_fn1 A_view_all__view_Ready_fn1 k 1000 0 Proofs.Try.f113 (absArgs as_view_all__view_Ready_fn1 d).1 (absArgs as_view_all__view_Ready_fn1 d).2 (outM rs_view_all__view_Ready_fn1 up_view_all__view_Ready_fn1) = view_all__view_Ready_fn1 k d.1 d.2.1 := by
  obtain ⟨_, _, _⟩ := d
  kernel_rfl
theorem R_view_all__view_Ready_fn1_ok : EntryOK Proofs.Try.prog R_view_all__view_Ready_fn1 := fun k _ _ _ _ _ hy =>
  entry_sound (unpack := up_view_all__view_Ready_fn1) (A := A_view_all__view_Ready_fn1) (k := k) (pre := 1000) (na := 0) (E := E_view_all__view_Ready_fn1) E_view_all__view_Ready_fn1_ok E_view_all__view_Ready_fn1_local mixed_orders (f := 113) (fn := Proofs.Try.f113) (by kernel_rfl) (body_loops (loopsOK_of (n := 1) (by kernel_rfl) fun i hi => match i, hi with | 0, _ => ⟨L_view_all__view_Ready_fn1_L0, by kernel_rfl, view_all__view_Ready_fn1_L0_ok⟩ | i + 1, hi => absurd hi (by omega))) (enters (fn := Proofs.Try.f113) (by kernel_rfl) (by kernel_rfl) (by kernel_rfl)) (fun _ => rfl) (view_all__view_Ready_fn1_ev k) hy
theorem R_view_all__view_Ready_fn1_local : EntryLocal R_view_all__view_Ready_fn1.2 := entry_local (S := fun k (d : AD as_view_all__view_Ready_fn1) => view_all__view_Ready_fn1 k d.1 d.2.1)

/-! ### giro/view.Ready -/
noncomputable def E_view_Ready : Env := ⟨Proofs.Try.prog, fun _ => false, sumsOf [R_view_all__view_Ready_fn1]⟩
def A_view_Ready : Notes := ⟨[], []⟩
theorem E_view_Ready_ok : EnvOK E_view_Ready := ⟨eqOK_none, sumsOf_ok (List.forall_mem_cons.2 ⟨R_view_all__view_Ready_fn1_ok, List.forall_mem_nil _⟩)⟩
theorem E_view_Ready_local : SumsLocal E_view_Ready.sums := sumsOf_local (List.forall_mem_cons.2 ⟨R_view_all__view_Ready_fn1_local, List.forall_mem_nil _⟩)
def as_view_Ready : List AS := [.c (.dat false (.pair (.int .i64) (.pair (.int .i64) (.pair (.int .i64) (.pair (.int .i64) (.pair (.int .i64) (.pair (.int .i64) (.int .i64)))))))), .c (.int .i64)]
def rs_view_Ready : RS := .c (.own (.pair (.int .i64) (.pair (.int .i64) (.pair (.int .i64) (.pair (.int .i64) (.pair (.int .i64) (.pair (.int .i64) (.int .i64))))))))
def pk_view_Ready : List (Int × Int × Int × Int × Int × Int × Int) → RL rs_view_Ready.cells := fun x => (x, ())
def up_view_Ready : RL rs_view_Ready.cells → List (Int × Int × Int × Int × Int × Int × Int) := fun d => d.1
def R_view_Ready : Nat × Entry := (109, fun k nm args h => entry as_view_Ready rs_view_Ready (fun d => view_Ready k d.1 d.2.1) pk_view_Ready nm args h)
theorem view_Ready_ev (k : Nat) (d : AD as_view_Ready) : evF E_view_Ready A_view_Ready k 1000 0 Proofs.Try.f109 (absArgs as_view_Ready d).1 (absArgs as_view_Ready d).2 (outM rs_view_Ready up_view_Ready) = view_Ready k d.1 d.2.1 := by
  obtain ⟨_, _, _⟩ := d
  kernel_rfl
theorem R_view_Ready_ok : EntryOK Proofs.Try.prog R_view_Ready := fun k _ _ _ _ _ hy =>
  entry_sound (unpack := up_view_Ready) (A := A_view_Ready) (k := k) (pre := 1000) (na := 0) (E := E_view_Ready) E_view_Ready_ok E_view_Ready_local mixed_orders (f := 109) (fn := Proofs.Try.f109) (by kernel_rfl) (body_loops (loopsOK_none (by kernel_rfl))) (enters (fn := Proofs.Try.f109) (by kernel_rfl) (by kernel_rfl) (by kernel_rfl)) (fun _ => rfl) (view_Ready_ev k) hy
theorem R_view_Ready_local : EntryLocal R_view_Ready.2 := entry_local (S := fun k (d : AD as_view_Ready) => view_Ready k d.1 d.2.1)

/-! ### giro/view.May$1$1 -/
noncomputable def E_view_May_fn1_fn1 : Env := ⟨Proofs.Try.prog, fun _ => false, sumsOf []⟩
def A_view_May_fn1_fn1 : Notes := ⟨[], []⟩
theorem E_view_May_fn1_fn1_ok : EnvOK E_view_May_fn1_fn1 := ⟨eqOK_none, sumsOf_ok (List.forall_mem_nil _)⟩
theorem E_view_May_fn1_fn1_local : SumsLocal E_view_May_fn1_fn1.sums := sumsOf_local (List.forall_mem_nil _)
def as_view_May_fn1_fn1 : List AS := [.agg [.int .i64, .int .i64, .int .i64, .int .i64, .int .i64, .int .i64, .int .i64], .ptr [.int .i64, .int .i64, .int .i64, .int .i64, .int .i64, .int .i64, .int .i64]]
def rs_view_May_fn1_fn1 : RS := .c (.bool)
def pk_view_May_fn1_fn1 : Bool → RL rs_view_May_fn1_fn1.cells := fun x => (x, ())
def up_view_May_fn1_fn1 : RL rs_view_May_fn1_fn1.cells → Bool := fun d => d.1
def R_view_May_fn1_fn1 : Nat × Entry := (115, fun k nm args h => entry as_view_May_fn1_fn1 rs_view_May_fn1_fn1 (fun d => view_May_fn1_fn1 k d.1 d.2.1 d.2.2.1 d.2.2.2.1 d.2.2.2.2.1 d.2.2.2.2.2.1 d.2.2.2.2.2.2.1 d.2.2.2.2.2.2.2.1 d.2.2.2.2.2.2.2.2.1 d.2.2.2.2.2.2.2.2.2.1 d.2.2.2.2.2.2.2.2.2.2.1 d.2.2.2.2.2.2.2.2.2.2.2.1 d.2.2.2.2.2.2.2.2.2.2.2.2.1 d.2.2.2.2.2.2.2.2.2.2.2.2.2.1) pk_view_May_fn1_fn1 nm args h)
theorem view_May_fn1_fn1_ev (k : Nat) (d : AD as_view_May_fn1_fn1) : evF E_view_May_fn1_fn1 A_view_May_fn1_fn1 k 1000 0 Proofs.Try.f115 (absArgs as_view_May_fn1_fn1 d).1 (absArgs as_view_May_fn1_fn1 d).2 (outM rs_view_May_fn1_fn1 up_view_May_fn1_fn1) = view_May_fn1_fn1 k d.1 d.2.1 d.2.2.1 d.2.2.2.1 d.2.2.2.2.1 d.2.2.2.2.2.1 d.2.2.2.2.2.2.1 d.2.2.2.2.2.2.2.1 d.2.2.2.2.2.2.2.2.1 d.2.2.2.2.2.2.2.2.2.1 d.2.2.2.2.2.2.2.2.2.2.1 d.2.2.2.2.2.2.2.2.2.2.2.1 d.2.2.2.2.2.2.2.2.2.2.2.2.1 d.2.2.2.2.2.2.2.2.2.2.2.2.2.1 := by
  obtain ⟨_, _, _, _, _, _, _, _, _, _, _, _, _, _, _⟩ := d
  kernel_rfl
theorem R_view_May_fn1_fn1_ok : EntryOK Proofs.Try.prog R_view_May_fn1_fn1 := fun k _ _ _ _ _ hy =>
  entry_sound (unpack := up_view_May_fn1_fn1) (A := A_view_May_fn1_fn1) (k := k) (pre := 1000) (na := 0) (E := E_view_May_fn1_fn1) E_view_May_fn1_fn1_ok E_view_May_fn1_fn1_local mixed_orders (f := 115) (fn := Proofs.Try.f115) (by kernel_rfl) (body_loops (loopsOK_none (by kernel_rfl))) (enters (fn := Proofs.Try.f115) (by kernel_rfl) (by kernel_rfl) (by kernel_rfl)) (fun _ => rfl) (view_May_fn1_fn1_ev k) hy
theorem R_view_May_fn1_fn1_local : EntryLocal R_view_May_fn1_fn1.2 := entry_local (S := fun k (d : AD as_view_May_fn1_fn1) => view_May_fn1_fn1 k d.1 d.2.1 d.2.2.1 d.2.2.2.1 d.2.2.2.2.1 d.2.2.2.2.2.1 d.2.2.2.2.2.2.1 d.2.2.2.2.2.2.2.1 d.2.2.2.2.2.2.2.2.1 d.2.2.2.2.2.2.2.2.2.1 d.2.2.2.2.2.2.2.2.2.2.1 d.2.2.2.2.2.2.2.2.2.2.2.1 d.2.2.2.2.2.2.2.2.2.2.2.2.1 d.2.2.2.2.2.2.2.2.2.2.2.2.2.1)

/-! ### slices.IndexFunc[[]giro/api.Pay,giro/api.Pay] -/
noncomputable def E_slices_IndexFunc_Pay__view_May_fn1_fn1 : Env := ⟨Proofs.Try.prog, fun _ => false, sumsOf [R_view_May_fn1_fn1]⟩
def I_slices_IndexFunc_Pay__view_May_fn1_fn1_L0 : Spec := ⟨[(0, .c (.dat false (.pair (.int .i64) (.pair (.int .i64) (.pair (.int .i64) (.pair (.int .i64) (.pair (.int .i64) (.pair (.int .i64) (.int .i64))))))))), (1, .c (.lit (.fn 115 [1001000]))), (7, .c (.int .i64)), (8, .c (.int .i64))], [.robox [.int .i64, .int .i64, .int .i64, .int .i64, .int .i64, .int .i64, .int .i64]], []⟩
def O_slices_IndexFunc_Pay__view_May_fn1_fn1_L0 : List (Ex × Spec) := [(.exit 0, ⟨[], [], []⟩), (.ret, ⟨[(4, .c (.int .i64))], [], []⟩)]
def T_slices_IndexFunc_Pay__view_May_fn1_fn1_L0 : OutD O_slices_IndexFunc_Pay__view_May_fn1_fn1_L0 → Unit ⊕ Int
 | .inl d => .inl ()
 | .inr d => .inr d.1.1.1
def e_slices_IndexFunc_Pay__view_May_fn1_fn1_L0 (base : Nat) (x : Unit ⊕ Int) (R : Type) (K : Ex → St → Option R) : Option R := match x with
 | .inl x => K (.exit 0) (stOf base ⟨[], [], []⟩ ((), ()))
 | .inr x => K .ret (stOf base ⟨[(4, .c (.int .i64))], [], []⟩ (((x, ()), ()), ()))
def L_slices_IndexFunc_Pay__view_May_fn1_fn1_L0 : LoopSum := ⟨I_slices_IndexFunc_Pay__view_May_fn1_fn1_L0, O_slices_IndexFunc_Pay__view_May_fn1_fn1_L0, Unit ⊕ Int, fun k d => slices_IndexFunc_Pay__view_May_fn1_fn1_L0 k k d.1.1.1 d.1.2.2.1.1 d.1.2.2.2.1.1 d.2.1.1 d.2.1.2.1 d.2.1.2.2.1 d.2.1.2.2.2.1 d.2.1.2.2.2.2.1 d.2.1.2.2.2.2.2.1 d.2.1.2.2.2.2.2.2.1, e_slices_IndexFunc_Pay__view_May_fn1_fn1_L0⟩
def A_slices_IndexFunc_Pay__view_May_fn1_fn1 : Notes := ⟨[], [(2, L_slices_IndexFunc_Pay__view_May_fn1_fn1_L0)]⟩
theorem E_slices_IndexFunc_Pay__view_May_fn1_fn1_ok : EnvOK E_slices_IndexFunc_Pay__view_May_fn1_fn1 := ⟨eqOK_none, sumsOf_ok (List.forall_mem_cons.2 ⟨R_view_May_fn1_fn1_ok, List.forall_mem_nil _⟩)⟩
theorem E_slices_IndexFunc_Pay__view_May_fn1_fn1_local : SumsLocal E_slices_IndexFunc_Pay__view_May_fn1_fn1.sums := sumsOf_local (List.forall_mem_cons.2 ⟨R_view_May_fn1_fn1_local, List.forall_mem_nil _⟩)
theorem slices_IndexFunc_Pay__view_May_fn1_fn1_L0_step (k : Nat) (rec : List (Int × Int × Int × Int × Int × Int × Int) → Int → Int → Int → Int → Int → Int → Int → Int → Int → Option (Unit ⊕ Int)) (d : I_slices_IndexFunc_Pay__view_May_fn1_fn1_L0.den) : slices_IndexFunc_Pay__view_May_fn1_fn1_L0b k rec d.1.1.1 d.1.2.2.1.1 d.1.2.2.2.1.1 d.2.1.1 d.2.1.2.1 d.2.1.2.2.1 d.2.1.2.2.2.1 d.2.1.2.2.2.2.1 d.2.1.2.2.2.2.2.1 d.2.1.2.2.2.2.2.2.1 = evC E_slices_IndexFunc_Pay__view_May_fn1_fn1 A_slices_IndexFunc_Pay__view_May_fn1_fn1 k 1000 0 19 (loopAt (bodyOf Proofs.Try.f122) 0) (stOf (1000 + loopBase) I_slices_IndexFunc_Pay__view_May_fn1_fn1_L0 d) (roundK 1000 I_slices_IndexFunc_Pay__view_May_fn1_fn1_L0 O_slices_IndexFunc_Pay__view_May_fn1_fn1_L0 T_slices_IndexFunc_Pay__view_May_fn1_fn1_L0 fun d => rec d.1.1.1 d.1.2.2.1.1 d.1.2.2.2.1.1 d.2.1.1 d.2.1.2.1 d.2.1.2.2.1 d.2.1.2.2.2.1 d.2.1.2.2.2.2.1 d.2.1.2.2.2.2.2.1 d.2.1.2.2.2.2.2.2.1) := by
  obtain ⟨⟨⟨_, _⟩, _, ⟨_, _⟩, ⟨_, _⟩, _⟩, ⟨⟨_, _, _, _, _, _, _, _⟩, _⟩⟩ := d
  kernel_rfl
theorem slices_IndexFunc_Pay__view_May_fn1_fn1_L0_ok : LoopOK Proofs.Try.prog 1000 0 19 (loopAt (bodyOf Proofs.Try.f122) 0) L_slices_IndexFunc_Pay__view_May_fn1_fn1_L0 :=
  loop_sound (A := A_slices_IndexFunc_Pay__view_May_fn1_fn1) (inS := I_slices_IndexFunc_Pay__view_May_fn1_fn1_L0) (outs := O_slices_IndexFunc_Pay__view_May_fn1_fn1_L0) E_slices_IndexFunc_Pay__view_May_fn1_fn1_ok E_slices_IndexFunc_Pay__view_May_fn1_fn1_local mixed_orders (loopsOK_none (by kernel_rfl)) T_slices_IndexFunc_Pay__view_May_fn1_fn1_L0 e_slices_IndexFunc_Pay__view_May_fn1_fn1_L0 (by intro o R K; rcases o with o | o <;> rfl) (fun k n d => slices_IndexFunc_Pay__view_May_fn1_fn1_L0 k n d.1.1.1 d.1.2.2.1.1 d.1.2.2.2.1.1 d.2.1.1 d.2.1.2.1 d.2.1.2.2.1 d.2.1.2.2.2.1 d.2.1.2.2.2.2.1 d.2.1.2.2.2.2.2.1 d.2.1.2.2.2.2.2.2.1) (fun _ _ => rfl) (fun k n d => slices_IndexFunc_Pay__view_May_fn1_fn1_L0_step k (slices_IndexFunc_Pay__view_May_fn1_fn1_L0 k n) d)
def as_slices_IndexFunc_Pay__view_May_fn1_fn1 : List AS := [.c (.dat false (.pair (.int .i64) (.pair (.int .i64) (.pair (.int .i64) (.pair (.int .i64) (.pair (.int .i64) (.pair (.int .i64) (.int .i64)))))))), .fn 115 [[.int .i64, .int .i64, .int .i64, .int .i64, .int .i64, .int .i64, .int .i64]]]
def rs_slices_IndexFunc_Pay__view_May_fn1_fn1 : RS := .c (.int .i64)
def pk_slices_IndexFunc_Pay__view_May_fn1_fn1 : Int → RL rs_slices_IndexFunc_Pay__view_May_fn1_fn1.cells := fun x => (x, ())
def up_slices_IndexFunc_Pay__view_May_fn1_fn1 : RL rs_slices_IndexFunc_Pay__view_May_fn1_fn1.cells → Int := fun d => d.1
def R_slices_IndexFunc_Pay__view_May_fn1_fn1 : Nat × Entry := (122, fun k nm args h => entry as_slices_IndexFunc_Pay__view_May_fn1_fn1 rs_slices_IndexFunc_Pay__view_May_fn1_fn1 (fun d => slices_IndexFunc_Pay__view_May_fn1_fn1 k d.1 d.2.1 d.2.2.1 d.2.2.2.1 d.2.2.2.2.1 d.2.2.2.2.2.1 d.2.2.2.2.2.2.1 d.2.2.2.2.2.2.2.1) pk_slices_IndexFunc_Pay__view_May_fn1_fn1 nm args h)
theorem slices_IndexFunc_Pay__view_May_fn1_fn1_ev (k : Nat) (d : AD as_slices_IndexFunc_Pay__view_May_fn1_fn1) : evF E_slices_IndexFunc_Pay__view_May_fn1_fn1 A_slices_IndexFunc_Pay__view_May_fn1_fn1 k 1000 0 Proofs.Try.f122 (absArgs as_slices_IndexFunc_Pay__view_May_fn1_fn1 d).1 (absArgs as_slices_IndexFunc_Pay__view_May_fn1_fn1 d).2 (outM rs_slices_IndexFunc_Pay__view_May_fn1_fn1 up_slices_IndexFunc_Pay__view_May_fn1_fn1) = slices_IndexFunc_Pay__view_May_fn1_fn1 k d.1 d.2.1 d.2.2.1 d.2.2.2.1 d.2.2.2.2.1 d.2.2.2.2.2.1 d.2.2.2.2.2.2.1 d.2.2.2.2.2.2.2.1 := by
  obtain ⟨_, _, _, _, _, _, _, _, _⟩ := d
  kernel_rfl
theorem R_slices_IndexFunc_Pay__view_May_fn1_fn1_ok : EntryOK Proofs.Try.prog R_slices_IndexFunc_Pay__view_May_fn1_fn1 := fun k _ _ _ _ _ hy =>
  entry_sound (unpack := up_slices_IndexFunc_Pay__view_May_fn1_fn1) (A := A_slices_IndexFunc_Pay__view_May_fn1_fn1) (k := k) (pre := 1000) (na := 0) (E := E_slices_IndexFunc_Pay__view_May_fn1_fn1) E_slices_IndexFunc_Pay__view_May_fn1_fn1_ok E_slices_IndexFunc_Pay__view_May_fn1_fn1_local mixed_orders (f := 122) (fn := Proofs.Try.f122) (by kernel_rfl) (body_loops (loopsOK_of (n := 1) (by kernel_rfl) fun i hi => match i, hi with | 0, _ => ⟨L_slices_IndexFunc_Pay__view_May_fn1_fn1_L0, by kernel_rfl, slices_IndexFunc_Pay__view_May_fn1_fn1_L0_ok⟩ | i + 1, hi => absurd hi (by omega))) (enters (fn := Proofs.Try.f122) (by kernel_rfl) (by kernel_rfl) (by kernel_rfl)) (fun _ => rfl) (slices_IndexFunc_Pay__view_May_fn1_fn1_ev k) hy
theorem R_slices_IndexFunc_Pay__view_May_fn1_fn1_local : EntryLocal R_slices_IndexFunc_Pay__view_May_fn1_fn1.2 := entry_local (S := fun k (d : AD as_slices_IndexFunc_Pay__view_May_fn1_fn1) => slices_IndexFunc_Pay__view_May_fn1_fn1 k d.1 d.2.1 d.2.2.1 d.2.2.2.1 d.2.2.2.2.1 d.2.2.2.2.2.1 d.2.2.2.2.2.2.1 d.2.2.2.2.2.2.2.1)

/-! ### slices.ContainsFunc[[]giro/api.Pay,giro/api.Pay] -/
noncomputable def E_slices_ContainsFunc_Pay__view_May_fn1_fn1 : Env := ⟨Proofs.Try.prog, fun _ => false, sumsOf [R_slices_IndexFunc_Pay__view_May_fn1_fn1]⟩
def A_slices_ContainsFunc_Pay__view_May_fn1_fn1 : Notes := ⟨[], []⟩
theorem E_slices_ContainsFunc_Pay__view_May_fn1_fn1_ok : EnvOK E_slices_ContainsFunc_Pay__view_May_fn1_fn1 := ⟨eqOK_none, sumsOf_ok (List.forall_mem_cons.2 ⟨R_slices_IndexFunc_Pay__view_May_fn1_fn1_ok, List.forall_mem_nil _⟩)⟩
theorem E_slices_ContainsFunc_Pay__view_May_fn1_fn1_local : SumsLocal E_slices_ContainsFunc_Pay__view_May_fn1_fn1.sums := sumsOf_local (List.forall_mem_cons.2 ⟨R_slices_IndexFunc_Pay__view_May_fn1_fn1_local, List.forall_mem_nil _⟩)
def as_slices_ContainsFunc_Pay__view_May_fn1_fn1 : List AS := [.c (.dat false (.pair (.int .i64) (.pair (.int .i64) (.pair (.int .i64) (.pair (.int .i64) (.pair (.int .i64) (.pair (.int .i64) (.int .i64)))))))), .fn 115 [[.int .i64, .int .i64, .int .i64, .int .i64, .int .i64, .int .i64, .int .i64]]]
def rs_slices_ContainsFunc_Pay__view_May_fn1_fn1 : RS := .c (.bool)
def pk_slices_ContainsFunc_Pay__view_May_fn1_fn1 : Bool → RL rs_slices_ContainsFunc_Pay__view_May_fn1_fn1.cells := fun x => (x, ())
def up_slices_ContainsFunc_Pay__view_May_fn1_fn1 : RL rs_slices_ContainsFunc_Pay__view_May_fn1_fn1.cells → Bool := fun d => d.1
def R_slices_ContainsFunc_Pay__view_May_fn1_fn1 : Nat × Entry := (116, fun k nm args h => entry as_slices_ContainsFunc_Pay__view_May_fn1_fn1 rs_slices_ContainsFunc_Pay__view_May_fn1_fn1 (fun d => slices_ContainsFunc_Pay__view_May_fn1_fn1 k d.1 d.2.1 d.2.2.1 d.2.2.2.1 d.2.2.2.2.1 d.2.2.2.2.2.1 d.2.2.2.2.2.2.1 d.2.2.2.2.2.2.2.1) pk_slices_ContainsFunc_Pay__view_May_fn1_fn1 nm args h)
theorem slices_ContainsFunc_Pay__view_May_fn1_fn1_ev (k : Nat) (d : AD as_slices_ContainsFunc_Pay__view_May_fn1_fn1) : evF E_slices_ContainsFunc_Pay__view_May_fn1_fn1 A_slices_ContainsFunc_Pay__view_May_fn1_fn1 k 1000 0 Proofs.Try.f116 (absArgs as_slices_ContainsFunc_Pay__view_May_fn1_fn1 d).1 (absArgs as_slices_ContainsFunc_Pay__view_May_fn1_fn1 d).2 (outM rs_slices_ContainsFunc_Pay__view_May_fn1_fn1 up_slices_ContainsFunc_Pay__view_May_fn1_fn1) = slices_ContainsFunc_Pay__view_May_fn1_fn1 k d.1 d.2.1 d.2.2.1 d.2.2.2.1 d.2.2.2.2.1 d.2.2.2.2.2.1 d.2.2.2.2.2.2.1 d.2.2.2.2.2.2.2.1 := by
  obtain ⟨_, _, _, _, _, _, _, _, _⟩ := d
  kernel_rfl
theorem R_slices_ContainsFunc_Pay__view_May_fn1_fn1_ok : EntryOK Proofs.Try.prog R_slices_ContainsFunc_Pay__view_May_fn1_fn1 := fun k _ _ _ _ _ hy =>
  entry_sound (unpack := up_slices_ContainsFunc_Pay__view_May_fn1_fn1) (A := A_slices_ContainsFunc_Pay__view_May_fn1_fn1) (k := k) (pre := 1000) (na := 0) (E := E_slices_ContainsFunc_Pay__view_May_fn1_fn1) E_slices_ContainsFunc_Pay__view_May_fn1_fn1_ok E_slices_ContainsFunc_Pay__view_May_fn1_fn1_local mixed_orders (f := 116) (fn := Proofs.Try.f116) (by kernel_rfl) (body_loops (loopsOK_none (by kernel_rfl))) (enters (fn := Proofs.Try.f116) (by kernel_rfl) (by kernel_rfl) (by kernel_rfl)) (fun _ => rfl) (slices_ContainsFunc_Pay__view_May_fn1_fn1_ev k) hy
theorem R_slices_ContainsFunc_Pay__view_May_fn1_fn1_local : EntryLocal R_slices_ContainsFunc_Pay__view_May_fn1_fn1.2 := entry_local (S := fun k (d : AD as_slices_ContainsFunc_Pay__view_May_fn1_fn1) => slices_ContainsFunc_Pay__view_May_fn1_fn1 k d.1 d.2.1 d.2.2.1 d.2.2.2.1 d.2.2.2.2.1 d.2.2.2.2.2.1 d.2.2.2.2.2.2.1 d.2.2.2.2.2.2.2.1)

/-! ### giro/view.May$1 -/
noncomputable def E_view_May_fn1 : Env := ⟨Proofs.Try.prog, fun _ => false, sumsOf [R_slices_ContainsFunc_Pay__view_May_fn1_fn1]⟩
def A_view_May_fn1 : Notes := ⟨[], []⟩
theorem E_view_May_fn1_ok : EnvOK E_view_May_fn1 := ⟨eqOK_none, sumsOf_ok (List.forall_mem_cons.2 ⟨R_slices_ContainsFunc_Pay__view_May_fn1_fn1_ok, List.forall_mem_nil _⟩)⟩
theorem E_view_May_fn1_local : SumsLocal E_view_May_fn1.sums := sumsOf_local (List.forall_mem_cons.2 ⟨R_slices_ContainsFunc_Pay__view_May_fn1_fn1_local, List.forall_mem_nil _⟩)
def as_view_May_fn1 : List AX := [.agg [.int .i64, .int .i64, .int .i64, .int .i64, .int .i64, .int .i64, .int .i64], .ptr true [.map], .ptr false [.p (.dat false (.pair (.int .i64) (.pair (.int .i64) (.pair (.int .i64) (.pair (.int .i64) (.pair (.int .i64) (.pair (.int .i64) (.int .i64))))))))]]
def rs_view_May_fn1 : RS := .c (.bool)
def os_view_May_fn1 : List (List RC) := [[.map]]
def pk_view_May_fn1 : Bool × (List (Int × Bool)) → RL (rs_view_May_fn1.cells ++ os_view_May_fn1.flatten) := fun x => (x.1, x.2, ())
def up_view_May_fn1 : RL (rs_view_May_fn1.cells ++ os_view_May_fn1.flatten) → Bool × (List (Int × Bool)) := fun d => (d.1, d.2.1)
def R_view_May_fn1 : Nat × Entry := (114, fun k nm args h => entryX as_view_May_fn1 rs_view_May_fn1 os_view_May_fn1 (fun d => view_May_fn1 k d.1 d.2.1 d.2.2.1 d.2.2.2.1 d.2.2.2.2.1 d.2.2.2.2.2.1 d.2.2.2.2.2.2.1 d.2.2.2.2.2.2.2.1 d.2.2.2.2.2.2.2.2.1) pk_view_May_fn1 nm args h)
theorem view_May_fn1_ev (k : Nat) (d : XD as_view_May_fn1) : evF E_view_May_fn1 A_view_May_fn1 k 1000 3 Proofs.Try.f114 (absArgsX as_view_May_fn1 d).1 (absArgsX as_view_May_fn1 d).2 (outXM as_view_May_fn1 rs_view_May_fn1 os_view_May_fn1 up_view_May_fn1) = view_May_fn1 k d.1 d.2.1 d.2.2.1 d.2.2.2.1 d.2.2.2.2.1 d.2.2.2.2.2.1 d.2.2.2.2.2.2.1 d.2.2.2.2.2.2.2.1 d.2.2.2.2.2.2.2.2.1 := by
  obtain ⟨_, _, _, _, _, _, _, _, _, _⟩ := d
  kernel_rfl
theorem R_view_May_fn1_ok : EntryOK Proofs.Try.prog R_view_May_fn1 := fun k _ _ _ _ _ hy =>
  entryX_sound (unpack := up_view_May_fn1) (A := A_view_May_fn1) (k := k) (pre := 1000) (na := 3) (E := E_view_May_fn1) E_view_May_fn1_ok E_view_May_fn1_local mixed_orders (f := 114) (fn := Proofs.Try.f114) (by kernel_rfl) (body_loops (loopsOK_none (by kernel_rfl))) (enters (fn := Proofs.Try.f114) (by kernel_rfl) (by kernel_rfl) (by kernel_rfl)) (fun _ => rfl) (by kernel_rfl) (view_May_fn1_ev k) hy
theorem R_view_May_fn1_local : EntryLocal R_view_May_fn1.2 := entryX_local (S := fun k (d : XD as_view_May_fn1) => view_May_fn1 k d.1 d.2.1 d.2.2.1 d.2.2.2.1 d.2.2.2.2.1 d.2.2.2.2.2.1 d.2.2.2.2.2.2.1 d.2.2.2.2.2.2.2.1 d.2.2.2.2.2.2.2.2.1)

/-! ### giro/view.all -/
noncomputable def E_view_all__view_May_fn1 : Env := ⟨Proofs.Try.prog, fun _ => false, sumsOf [R_view_May_fn1]⟩
def I_view_all__view_May_fn1_L0 : Spec := ⟨[(1, .c (.lit (.fn 114 [1001000, 1001002]))), (5, .c (.lit (.osl 1001003 none))), (8, .c (.dat false (.pair (.int .i64) (.pair (.int .i64) (.pair (.int .i64) (.pair (.int .i64) (.pair (.int .i64) (.pair (.int .i64) (.int .i64))))))))), (9, .c (.int .i64)), (10, .c (.int .i64))], [.box true [.lit (.map 1001001)], .imap, .robox [.dat false (.pair (.int .i64) (.pair (.int .i64) (.pair (.int .i64) (.pair (.int .i64) (.pair (.int .i64) (.pair (.int .i64) (.int .i64)))))))], .arr true (.pair (.int .i64) (.pair (.int .i64) (.pair (.int .i64) (.pair (.int .i64) (.pair (.int .i64) (.pair (.int .i64) (.int .i64)))))))], [(5, none, (.pair (.int .i64) (.pair (.int .i64) (.pair (.int .i64) (.pair (.int .i64) (.pair (.int .i64) (.pair (.int .i64) (.int .i64))))))), false)]⟩
def O_view_all__view_May_fn1_L0 : List (Ex × Spec) := [(.exit 0, ⟨[(1, .c (.lit (.fn 114 [1001000, 1001002]))), (5, .c (.lit (.osl 1001003 none)))], [.box true [.lit (.map 1001001)], .imap, .robox [.dat false (.pair (.int .i64) (.pair (.int .i64) (.pair (.int .i64) (.pair (.int .i64) (.pair (.int .i64) (.pair (.int .i64) (.int .i64)))))))], .arr true (.pair (.int .i64) (.pair (.int .i64) (.pair (.int .i64) (.pair (.int .i64) (.pair (.int .i64) (.pair (.int .i64) (.int .i64)))))))], []⟩)]
def T_view_all__view_May_fn1_L0 : OutD O_view_all__view_May_fn1_L0 → (List (Int × Bool)) × (List (Int × Int × Int × Int × Int × Int × Int)) × (List (Int × Int × Int × Int × Int × Int × Int)) := fun d => (d.2.2.1, d.2.2.2.1.1, d.2.2.2.2.1)
def e_view_all__view_May_fn1_L0 (base : Nat) (x : (List (Int × Bool)) × (List (Int × Int × Int × Int × Int × Int × Int)) × (List (Int × Int × Int × Int × Int × Int × Int))) (R : Type) (K : Ex → St → Option R) : Option R := K (.exit 0) (stOf base ⟨[(1, .c (.lit (.fn 114 [1001000, 1001002]))), (5, .c (.lit (.osl 1001003 none)))], [.box true [.lit (.map 1001001)], .imap, .robox [.dat false (.pair (.int .i64) (.pair (.int .i64) (.pair (.int .i64) (.pair (.int .i64) (.pair (.int .i64) (.pair (.int .i64) (.int .i64)))))))], .arr true (.pair (.int .i64) (.pair (.int .i64) (.pair (.int .i64) (.pair (.int .i64) (.pair (.int .i64) (.pair (.int .i64) (.int .i64)))))))], []⟩ (((), (), ()), ((), x.1, (x.2.1, ()), x.2.2, ())))
def L_view_all__view_May_fn1_L0 : LoopSum := ⟨I_view_all__view_May_fn1_L0, O_view_all__view_May_fn1_L0, (List (Int × Bool)) × (List (Int × Int × Int × Int × Int × Int × Int)) × (List (Int × Int × Int × Int × Int × Int × Int)), fun k d => view_all__view_May_fn1_L0 k k d.1.2.2.1.1 d.1.2.2.2.1.1 d.1.2.2.2.2.1.1 d.2.2.1 d.2.2.2.1.1 d.2.2.2.2.1, e_view_all__view_May_fn1_L0⟩
def A_view_all__view_May_fn1 : Notes := ⟨[], [(3, L_view_all__view_May_fn1_L0)]⟩
theorem E_view_all__view_May_fn1_ok : EnvOK E_view_all__view_May_fn1 := ⟨eqOK_none, sumsOf_ok (List.forall_mem_cons.2 ⟨R_view_May_fn1_ok, List.forall_mem_nil _⟩)⟩
theorem E_view_all__view_May_fn1_local : SumsLocal E_view_all__view_May_fn1.sums := sumsOf_local (List.forall_mem_cons.2 ⟨R_view_May_fn1_local, List.forall_mem_nil _⟩)
theorem view_all__view_May_fn1_L0_step (k : Nat) (rec : List (Int × Int × Int × Int × Int × Int × Int) → Int → Int → List (Int × Bool) → List (Int × Int × Int × Int × Int × Int × Int) → List (Int × Int × Int × Int × Int × Int × Int) → Option ((List (Int × Bool)) × (List (Int × Int × Int × Int × Int × Int × Int)) × (List (Int × Int × Int × Int × Int × Int × Int)))) (d : I_view_all__view_May_fn1_L0.den) : view_all__view_May_fn1_L0b k rec d.1.2.2.1.1 d.1.2.2.2.1.1 d.1.2.2.2.2.1.1 d.2.2.1 d.2.2.2.1.1 d.2.2.2.2.1 = evC E_view_all__view_May_fn1 A_view_all__view_May_fn1 k 1000 2 23 (loopAt (bodyOf Proofs.Try.f113) 0) (stOf (1000 + loopBase) I_view_all__view_May_fn1_L0 d) (roundK 1000 I_view_all__view_May_fn1_L0 O_view_all__view_May_fn1_L0 T_view_all__view_May_fn1_L0 fun d => rec d.1.2.2.1.1 d.1.2.2.2.1.1 d.1.2.2.2.2.1.1 d.2.2.1 d.2.2.2.1.1 d.2.2.2.2.1) := by
  obtain ⟨⟨_, _, ⟨_, _⟩, ⟨_, _⟩, ⟨_, _⟩, _⟩, ⟨_, _, ⟨_, _⟩, _, _⟩⟩ := d
  kernel_rfl
theorem view_all__view_May_fn1_L0_ok : LoopOK Proofs.Try.prog 1000 2 23 (loopAt (bodyOf Proofs.Try.f113) 0) L_view_all__view_May_fn1_L0 :=
  loop_sound (A := A_view_all__view_May_fn1) (inS := I_view_all__view_May_fn1_L0) (outs := O_view_all__view_May_fn1_L0) E_view_all__view_May_fn1_ok E_view_all__view_May_fn1_local mixed_orders (loopsOK_none (by kernel_rfl)) T_view_all__view_May_fn1_L0 e_view_all__view_May_fn1_L0 (fun _ _ _ => rfl) (fun k n d => view_all__view_May_fn1_L0 k n d.1.2.2.1.1 d.1.2.2.2.1.1 d.1.2.2.2.2.1.1 d.2.2.1 d.2.2.2.1.1 d.2.2.2.2.1) (fun _ _ => rfl) (fun k n d => view_all__view_May_fn1_L0_step k (view_all__view_May_fn1_L0 k n) d)
def as_view_all__view_May_fn1 : List AX := [.c (.p (.dat false (.pair (.int .i64) (.pair (.int .i64) (.pair (.int .i64) (.pair (.int .i64) (.pair (.int .i64) (.pair (.int .i64) (.int .i64))))))))), .fn 114 [(true, [.map]), (false, [.p (.dat false (.pair (.int .i64) (.pair (.int .i64) (.pair (.int .i64) (.pair (.int .i64) (.pair (.int .i64) (.pair (.int .i64) (.int .i64))))))))])]]
def rs_view_all__view_May_fn1 : RS := .c (.own (.pair (.int .i64) (.pair (.int .i64) (.pair (.int .i64) (.pair (.int .i64) (.pair (.int .i64) (.pair (.int .i64) (.int .i64))))))))
def os_view_all__view_May_fn1 : List (List RC) := [[.map]]
def pk_view_all__view_May_fn1 : (List (Int × Int × Int × Int × Int × Int × Int)) × (List (Int × Bool)) → RL (rs_view_all__view_May_fn1.cells ++ os_view_all__view_May_fn1.flatten) := fun x => (x.1, x.2, ())
def up_view_all__view_May_fn1 : RL (rs_view_all__view_May_fn1.cells ++ os_view_all__view_May_fn1.flatten) → (List (Int × Int × Int × Int × Int × Int × Int)) × (List (Int × Bool)) := fun d => (d.1, d.2.1)
def R_view_all__view_May_fn1 : Nat × Entry := (113, fun k nm args h => entryX as_view_all__view_May_fn1 rs_view_all__view_May_fn1 os_view_all__view_May_fn1 (fun d => view_all__view_May_fn1 k d.1 d.2.1 d.2.2.1) pk_view_all__view_May_fn1 nm args h)
theorem view_all__view_May_fn1_ev (k : Nat) (d : XD as_view_all__view_May_fn1) : evF E_view_all__view_May_fn1 A_view_all__view_May_fn1 k 1000 2 Proofs.Try.f113 (absArgsX as_view_all__view_May_fn1 d).1 (absArgsX as_view_all__view_May_fn1 d).2 (outXM as_view_all__view_May_fn1 rs_view_all__view_May_fn1 os_view_all__view_May_fn1 up_view_all__view_May_fn1) = view_all__view_May_fn1 k d.1 d.2.1 d.2.2.1 := by
  obtain ⟨_, _, _, _⟩ := d
  kernel_rfl
theorem R_view_all__view_May_fn1_ok : EntryOK Proofs.Try.prog R_view_all__view_May_fn1 := fun k _ _ _ _ _ hy =>
  entryX_sound (unpack := up_view_all__view_May_fn1) (A := A_view_all__view_May_fn1) (k := k) (pre := 1000) (na := 2) (E := E_view_all__view_May_fn1) E_view_all__view_May_fn1_ok E_view_all__view_May_fn1_local mixed_orders (f := 113) (fn := Proofs.Try.f113) (by kernel_rfl) (body_loops (loopsOK_of (n := 1) (by kernel_rfl) fun i hi => match i, hi with | 0, _ => ⟨L_view_all__view_May_fn1_L0, by kernel_rfl, view_all__view_May_fn1_L0_ok⟩ | i + 1, hi => absurd hi (by omega))) (enters (fn := Proofs.Try.f113) (by kernel_rfl) (by kernel_rfl) (by kernel_rfl)) (fun _ => rfl) (by kernel_rfl) (view_all__view_May_fn1_ev k) hy
theorem R_view_all__view_May_fn1_local : EntryLocal R_view_all__view_May_fn1.2 := entryX_local (S := fun k (d : XD as_view_all__view_May_fn1) => view_all__view_May_fn1 k d.1 d.2.1 d.2.2.1)

/-! ### giro/view.May -/
noncomputable def E_view_May : Env := ⟨Proofs.Try.prog, fun _ => false, sumsOf [R_view_Ready, R_view_all__view_May_fn1]⟩
def A_view_May : Notes := ⟨[], []⟩
theorem E_view_May_ok : EnvOK E_view_May := ⟨eqOK_none, sumsOf_ok (List.forall_mem_cons.2 ⟨R_view_Ready_ok, List.forall_mem_cons.2 ⟨R_view_all__view_May_fn1_ok, List.forall_mem_nil _⟩⟩)⟩
theorem E_view_May_local : SumsLocal E_view_May.sums := sumsOf_local (List.forall_mem_cons.2 ⟨R_view_Ready_local, List.forall_mem_cons.2 ⟨R_view_all__view_May_fn1_local, List.forall_mem_nil _⟩⟩)
def as_view_May : List AS := [.c (.dat false (.pair (.int .i64) (.pair (.int .i64) (.pair (.int .i64) (.pair (.int .i64) (.pair (.int .i64) (.pair (.int .i64) (.int .i64)))))))), .c (.int .i64)]
def rs_view_May : RS := .c (.own (.pair (.int .i64) (.pair (.int .i64) (.pair (.int .i64) (.pair (.int .i64) (.pair (.int .i64) (.pair (.int .i64) (.int .i64))))))))
def pk_view_May : List (Int × Int × Int × Int × Int × Int × Int) → RL rs_view_May.cells := fun x => (x, ())
def up_view_May : RL rs_view_May.cells → List (Int × Int × Int × Int × Int × Int × Int) := fun d => d.1
def R_view_May : Nat × Entry := (95, fun k nm args h => entry as_view_May rs_view_May (fun d => view_May k d.1 d.2.1) pk_view_May nm args h)
theorem view_May_ev (k : Nat) (d : AD as_view_May) : evF E_view_May A_view_May k 1000 0 Proofs.Try.f95 (absArgs as_view_May d).1 (absArgs as_view_May d).2 (outM rs_view_May up_view_May) = view_May k d.1 d.2.1 := by
  obtain ⟨_, _, _⟩ := d
  kernel_rfl
theorem R_view_May_ok : EntryOK Proofs.Try.prog R_view_May := fun k _ _ _ _ _ hy =>
  entry_sound (unpack := up_view_May) (A := A_view_May) (k := k) (pre := 1000) (na := 0) (E := E_view_May) E_view_May_ok E_view_May_local mixed_orders (f := 95) (fn := Proofs.Try.f95) (by kernel_rfl) (body_loops (loopsOK_none (by kernel_rfl))) (enters (fn := Proofs.Try.f95) (by kernel_rfl) (by kernel_rfl) (by kernel_rfl)) (fun _ => rfl) (view_May_ev k) hy
theorem R_view_May_local : EntryLocal R_view_May.2 := entry_local (S := fun k (d : AD as_view_May) => view_May k d.1 d.2.1)

/-! ### giro/fits.May -/
noncomputable def E_fits_May : Env := ⟨Proofs.Try.prog, fun _ => false, sumsOf []⟩
def A_fits_May : Notes := ⟨[], []⟩
theorem E_fits_May_ok : EnvOK E_fits_May := ⟨eqOK_none, sumsOf_ok (List.forall_mem_nil _)⟩
theorem E_fits_May_local : SumsLocal E_fits_May.sums := sumsOf_local (List.forall_mem_nil _)
def as_fits_May : List AS := [.agg [.dat false (.pair (.int .i64) (.pair (.int .i64) (.int .i64))), .dat false (.sl (.int .i64)), .dat false (.int .i64), .dat false (.sl (.int .i64))], .agg [.int .i64, .int .i64, .int .i64, .int .i64, .int .i64, .int .i64, .int .i64]]
def rs_fits_May : RS := .c (.bool)
def pk_fits_May : Bool → RL rs_fits_May.cells := fun x => (x, ())
def up_fits_May : RL rs_fits_May.cells → Bool := fun d => d.1
def R_fits_May : Nat × Entry := (118, fun k nm args h => entry as_fits_May rs_fits_May (fun d => fits_May k d.1 d.2.1 d.2.2.1 d.2.2.2.1 d.2.2.2.2.1 d.2.2.2.2.2.1 d.2.2.2.2.2.2.1 d.2.2.2.2.2.2.2.1 d.2.2.2.2.2.2.2.2.1 d.2.2.2.2.2.2.2.2.2.1 d.2.2.2.2.2.2.2.2.2.2.1) pk_fits_May nm args h)
theorem fits_May_ev (k : Nat) (d : AD as_fits_May) : evF E_fits_May A_fits_May k 1000 0 Proofs.Try.f118 (absArgs as_fits_May d).1 (absArgs as_fits_May d).2 (outM rs_fits_May up_fits_May) = fits_May k d.1 d.2.1 d.2.2.1 d.2.2.2.1 d.2.2.2.2.1 d.2.2.2.2.2.1 d.2.2.2.2.2.2.1 d.2.2.2.2.2.2.2.1 d.2.2.2.2.2.2.2.2.1 d.2.2.2.2.2.2.2.2.2.1 d.2.2.2.2.2.2.2.2.2.2.1 := by
  obtain ⟨_, _, _, _, _, _, _, _, _, _, _, _⟩ := d
  kernel_rfl
theorem R_fits_May_ok : EntryOK Proofs.Try.prog R_fits_May := fun k _ _ _ _ _ hy =>
  entry_sound (unpack := up_fits_May) (A := A_fits_May) (k := k) (pre := 1000) (na := 0) (E := E_fits_May) E_fits_May_ok E_fits_May_local mixed_orders (f := 118) (fn := Proofs.Try.f118) (by kernel_rfl) (body_loops (loopsOK_none (by kernel_rfl))) (enters (fn := Proofs.Try.f118) (by kernel_rfl) (by kernel_rfl) (by kernel_rfl)) (fun _ => rfl) (fits_May_ev k) hy
theorem R_fits_May_local : EntryLocal R_fits_May.2 := entry_local (S := fun k (d : AD as_fits_May) => fits_May k d.1 d.2.1 d.2.2.1 d.2.2.2.1 d.2.2.2.2.1 d.2.2.2.2.2.1 d.2.2.2.2.2.2.1 d.2.2.2.2.2.2.2.1 d.2.2.2.2.2.2.2.2.1 d.2.2.2.2.2.2.2.2.2.1 d.2.2.2.2.2.2.2.2.2.2.1)

/-! ### giro/fits.Fits$1 -/
noncomputable def E_fits_Fits_fn1 : Env := ⟨Proofs.Try.prog, fun _ => false, sumsOf [R_fits_May]⟩
def A_fits_Fits_fn1 : Notes := ⟨[], []⟩
theorem E_fits_Fits_fn1_ok : EnvOK E_fits_Fits_fn1 := ⟨eqOK_none, sumsOf_ok (List.forall_mem_cons.2 ⟨R_fits_May_ok, List.forall_mem_nil _⟩)⟩
theorem E_fits_Fits_fn1_local : SumsLocal E_fits_Fits_fn1.sums := sumsOf_local (List.forall_mem_cons.2 ⟨R_fits_May_local, List.forall_mem_nil _⟩)
def as_fits_Fits_fn1 : List AS := [.agg [.int .i64, .int .i64, .int .i64, .int .i64, .int .i64, .int .i64, .int .i64], .ptr [.dat false (.pair (.int .i64) (.pair (.int .i64) (.int .i64))), .dat false (.sl (.int .i64)), .dat false (.int .i64), .dat false (.sl (.int .i64))]]
def rs_fits_Fits_fn1 : RS := .c (.bool)
def pk_fits_Fits_fn1 : Bool → RL rs_fits_Fits_fn1.cells := fun x => (x, ())
def up_fits_Fits_fn1 : RL rs_fits_Fits_fn1.cells → Bool := fun d => d.1
def R_fits_Fits_fn1 : Nat × Entry := (117, fun k nm args h => entry as_fits_Fits_fn1 rs_fits_Fits_fn1 (fun d => fits_Fits_fn1 k d.1 d.2.1 d.2.2.1 d.2.2.2.1 d.2.2.2.2.1 d.2.2.2.2.2.1 d.2.2.2.2.2.2.1 d.2.2.2.2.2.2.2.1 d.2.2.2.2.2.2.2.2.1 d.2.2.2.2.2.2.2.2.2.1 d.2.2.2.2.2.2.2.2.2.2.1) pk_fits_Fits_fn1 nm args h)
theorem fits_Fits_fn1_ev (k : Nat) (d : AD as_fits_Fits_fn1) : evF E_fits_Fits_fn1 A_fits_Fits_fn1 k 1000 0 Proofs.Try.f117 (absArgs as_fits_Fits_fn1 d).1 (absArgs as_fits_Fits_fn1 d).2 (outM rs_fits_Fits_fn1 up_fits_Fits_fn1) = fits_Fits_fn1 k d.1 d.2.1 d.2.2.1 d.2.2.2.1 d.2.2.2.2.1 d.2.2.2.2.2.1 d.2.2.2.2.2.2.1 d.2.2.2.2.2.2.2.1 d.2.2.2.2.2.2.2.2.1 d.2.2.2.2.2.2.2.2.2.1 d.2.2.2.2.2.2.2.2.2.2.1 := by
  obtain ⟨_, _, _, _, _, _, _, _, _, _, _, _⟩ := d
  kernel_rfl
theorem R_fits_Fits_fn1_ok : EntryOK Proofs.Try.prog R_fits_Fits_fn1 := fun k _ _ _ _ _ hy =>
  entry_sound (unpack := up_fits_Fits_fn1) (A := A_fits_Fits_fn1) (k := k) (pre := 1000) (na := 0) (E := E_fits_Fits_fn1) E_fits_Fits_fn1_ok E_fits_Fits_fn1_local mixed_orders (f := 117) (fn := Proofs.Try.f117) (by kernel_rfl) (body_loops (loopsOK_none (by kernel_rfl))) (enters (fn := Proofs.Try.f117) (by kernel_rfl) (by kernel_rfl) (by kernel_rfl)) (fun _ => rfl) (fits_Fits_fn1_ev k) hy
theorem R_fits_Fits_fn1_local : EntryLocal R_fits_Fits_fn1.2 := entry_local (S := fun k (d : AD as_fits_Fits_fn1) => fits_Fits_fn1 k d.1 d.2.1 d.2.2.1 d.2.2.2.1 d.2.2.2.2.1 d.2.2.2.2.2.1 d.2.2.2.2.2.2.1 d.2.2.2.2.2.2.2.1 d.2.2.2.2.2.2.2.2.1 d.2.2.2.2.2.2.2.2.2.1 d.2.2.2.2.2.2.2.2.2.2.1)

/-! ### slices.IndexFunc[[]giro/api.Pay,giro/api.Pay] -/
noncomputable def E_slices_IndexFunc_Pay__fits_Fits_fn1 : Env := ⟨Proofs.Try.prog, fun _ => false, sumsOf [R_fits_Fits_fn1]⟩
def I_slices_IndexFunc_Pay__fits_Fits_fn1_L0 : Spec := ⟨[(0, .c (.dat false (.pair (.int .i64) (.pair (.int .i64) (.pair (.int .i64) (.pair (.int .i64) (.pair (.int .i64) (.pair (.int .i64) (.int .i64))))))))), (1, .c (.lit (.fn 117 [1001000]))), (7, .c (.int .i64)), (8, .c (.int .i64))], [.robox [.dat false (.pair (.int .i64) (.pair (.int .i64) (.int .i64))), .dat false (.sl (.int .i64)), .dat false (.int .i64), .dat false (.sl (.int .i64))]], []⟩
def O_slices_IndexFunc_Pay__fits_Fits_fn1_L0 : List (Ex × Spec) := [(.exit 0, ⟨[], [], []⟩), (.ret, ⟨[(4, .c (.int .i64))], [], []⟩)]
def T_slices_IndexFunc_Pay__fits_Fits_fn1_L0 : OutD O_slices_IndexFunc_Pay__fits_Fits_fn1_L0 → Unit ⊕ Int
 | .inl d => .inl ()
 | .inr d => .inr d.1.1.1
def e_slices_IndexFunc_Pay__fits_Fits_fn1_L0 (base : Nat) (x : Unit ⊕ Int) (R : Type) (K : Ex → St → Option R) : Option R := match x with
 | .inl x => K (.exit 0) (stOf base ⟨[], [], []⟩ ((), ()))
 | .inr x => K .ret (stOf base ⟨[(4, .c (.int .i64))], [], []⟩ (((x, ()), ()), ()))
def L_slices_IndexFunc_Pay__fits_Fits_fn1_L0 : LoopSum := ⟨I_slices_IndexFunc_Pay__fits_Fits_fn1_L0, O_slices_IndexFunc_Pay__fits_Fits_fn1_L0, Unit ⊕ Int, fun k d => slices_IndexFunc_Pay__fits_Fits_fn1_L0 k k d.1.1.1 d.1.2.2.1.1 d.1.2.2.2.1.1 d.2.1.1 d.2.1.2.1 d.2.1.2.2.1 d.2.1.2.2.2.1, e_slices_IndexFunc_Pay__fits_Fits_fn1_L0⟩
def A_slices_IndexFunc_Pay__fits_Fits_fn1 : Notes := ⟨[], [(2, L_slices_IndexFunc_Pay__fits_Fits_fn1_L0)]⟩
theorem E_slices_IndexFunc_Pay__fits_Fits_fn1_ok : EnvOK E_slices_IndexFunc_Pay__fits_Fits_fn1 := ⟨eqOK_none, sumsOf_ok (List.forall_mem_cons.2 ⟨R_fits_Fits_fn1_ok, List.forall_mem_nil _⟩)⟩
theorem E_slices_IndexFunc_Pay__fits_Fits_fn1_local : SumsLocal E_slices_IndexFunc_Pay__fits_Fits_fn1.sums := sumsOf_local (List.forall_mem_cons.2 ⟨R_fits_Fits_fn1_local, List.forall_mem_nil _⟩)
theorem slices_IndexFunc_Pay__fits_Fits_fn1_L0_step (k : Nat) (rec : List (Int × Int × Int × Int × Int × Int × Int) → Int → Int → List (Int × Int × Int) → List (List Int) → List Int → List (List Int) → Option (Unit ⊕ Int)) (d : I_slices_IndexFunc_Pay__fits_Fits_fn1_L0.den) : slices_IndexFunc_Pay__fits_Fits_fn1_L0b k rec d.1.1.1 d.1.2.2.1.1 d.1.2.2.2.1.1 d.2.1.1 d.2.1.2.1 d.2.1.2.2.1 d.2.1.2.2.2.1 = evC E_slices_IndexFunc_Pay__fits_Fits_fn1 A_slices_IndexFunc_Pay__fits_Fits_fn1 k 1000 0 19 (loopAt (bodyOf Proofs.Try.f122) 0) (stOf (1000 + loopBase) I_slices_IndexFunc_Pay__fits_Fits_fn1_L0 d) (roundK 1000 I_slices_IndexFunc_Pay__fits_Fits_fn1_L0 O_slices_IndexFunc_Pay__fits_Fits_fn1_L0 T_slices_IndexFunc_Pay__fits_Fits_fn1_L0 fun d => rec d.1.1.1 d.1.2.2.1.1 d.1.2.2.2.1.1 d.2.1.1 d.2.1.2.1 d.2.1.2.2.1 d.2.1.2.2.2.1) := by
  obtain ⟨⟨⟨_, _⟩, _, ⟨_, _⟩, ⟨_, _⟩, _⟩, ⟨⟨_, _, _, _, _⟩, _⟩⟩ := d
  kernel_rfl
theorem slices_IndexFunc_Pay__fits_Fits_fn1_L0_ok : LoopOK Proofs.Try.prog 1000 0 19 (loopAt (bodyOf Proofs.Try.f122) 0) L_slices_IndexFunc_Pay__fits_Fits_fn1_L0 :=
  loop_sound (A := A_slices_IndexFunc_Pay__fits_Fits_fn1) (inS := I_slices_IndexFunc_Pay__fits_Fits_fn1_L0) (outs := O_slices_IndexFunc_Pay__fits_Fits_fn1_L0) E_slices_IndexFunc_Pay__fits_Fits_fn1_ok E_slices_IndexFunc_Pay__fits_Fits_fn1_local mixed_orders (loopsOK_none (by kernel_rfl)) T_slices_IndexFunc_Pay__fits_Fits_fn1_L0 e_slices_IndexFunc_Pay__fits_Fits_fn1_L0 (by intro o R K; rcases o with o | o <;> rfl) (fun k n d => slices_IndexFunc_Pay__fits_Fits_fn1_L0 k n d.1.1.1 d.1.2.2.1.1 d.1.2.2.2.1.1 d.2.1.1 d.2.1.2.1 d.2.1.2.2.1 d.2.1.2.2.2.1) (fun _ _ => rfl) (fun k n d => slices_IndexFunc_Pay__fits_Fits_fn1_L0_step k (slices_IndexFunc_Pay__fits_Fits_fn1_L0 k n) d)
def as_slices_IndexFunc_Pay__fits_Fits_fn1 : List AS := [.c (.dat false (.pair (.int .i64) (.pair (.int .i64) (.pair (.int .i64) (.pair (.int .i64) (.pair (.int .i64) (.pair (.int .i64) (.int .i64)))))))), .fn 117 [[.dat false (.pair (.int .i64) (.pair (.int .i64) (.int .i64))), .dat false (.sl (.int .i64)), .dat false (.int .i64), .dat false (.sl (.int .i64))]]]
def rs_slices_IndexFunc_Pay__fits_Fits_fn1 : RS := .c (.int .i64)
def pk_slices_IndexFunc_Pay__fits_Fits_fn1 : Int → RL rs_slices_IndexFunc_Pay__fits_Fits_fn1.cells := fun x => (x, ())
def up_slices_IndexFunc_Pay__fits_Fits_fn1 : RL rs_slices_IndexFunc_Pay__fits_Fits_fn1.cells → Int := fun d => d.1
def R_slices_IndexFunc_Pay__fits_Fits_fn1 : Nat × Entry := (122, fun k nm args h => entry as_slices_IndexFunc_Pay__fits_Fits_fn1 rs_slices_IndexFunc_Pay__fits_Fits_fn1 (fun d => slices_IndexFunc_Pay__fits_Fits_fn1 k d.1 d.2.1 d.2.2.1 d.2.2.2.1 d.2.2.2.2.1) pk_slices_IndexFunc_Pay__fits_Fits_fn1 nm args h)
theorem slices_IndexFunc_Pay__fits_Fits_fn1_ev (k : Nat) (d : AD as_slices_IndexFunc_Pay__fits_Fits_fn1) : evF E_slices_IndexFunc_Pay__fits_Fits_fn1 A_slices_IndexFunc_Pay__fits_Fits_fn1 k 1000 0 Proofs.Try.f122 (absArgs as_slices_IndexFunc_Pay__fits_Fits_fn1 d).1 (absArgs as_slices_IndexFunc_Pay__fits_Fits_fn1 d).2 (outM rs_slices_IndexFunc_Pay__fits_Fits_fn1 up_slices_IndexFunc_Pay__fits_Fits_fn1) = slices_IndexFunc_Pay__fits_Fits_fn1 k d.1 d.2.1 d.2.2.1 d.2.2.2.1 d.2.2.2.2.1 := by
  obtain ⟨_, _, _, _, _, _⟩ := d
  kernel_rfl
theorem R_slices_IndexFunc_Pay__fits_Fits_fn1_ok : EntryOK Proofs.Try.prog R_slices_IndexFunc_Pay__fits_Fits_fn1 := fun k _ _ _ _ _ hy =>
  entry_sound (unpack := up_slices_IndexFunc_Pay__fits_Fits_fn1) (A := A_slices_IndexFunc_Pay__fits_Fits_fn1) (k := k) (pre := 1000) (na := 0) (E := E_slices_IndexFunc_Pay__fits_Fits_fn1) E_slices_IndexFunc_Pay__fits_Fits_fn1_ok E_slices_IndexFunc_Pay__fits_Fits_fn1_local mixed_orders (f := 122) (fn := Proofs.Try.f122) (by kernel_rfl) (body_loops (loopsOK_of (n := 1) (by kernel_rfl) fun i hi => match i, hi with | 0, _ => ⟨L_slices_IndexFunc_Pay__fits_Fits_fn1_L0, by kernel_rfl, slices_IndexFunc_Pay__fits_Fits_fn1_L0_ok⟩ | i + 1, hi => absurd hi (by omega))) (enters (fn := Proofs.Try.f122) (by kernel_rfl) (by kernel_rfl) (by kernel_rfl)) (fun _ => rfl) (slices_IndexFunc_Pay__fits_Fits_fn1_ev k) hy
theorem R_slices_IndexFunc_Pay__fits_Fits_fn1_local : EntryLocal R_slices_IndexFunc_Pay__fits_Fits_fn1.2 := entry_local (S := fun k (d : AD as_slices_IndexFunc_Pay__fits_Fits_fn1) => slices_IndexFunc_Pay__fits_Fits_fn1 k d.1 d.2.1 d.2.2.1 d.2.2.2.1 d.2.2.2.2.1)

/-! ### slices.ContainsFunc[[]giro/api.Pay,giro/api.Pay] -/
noncomputable def E_slices_ContainsFunc_Pay__fits_Fits_fn1 : Env := ⟨Proofs.Try.prog, fun _ => false, sumsOf [R_slices_IndexFunc_Pay__fits_Fits_fn1]⟩
def A_slices_ContainsFunc_Pay__fits_Fits_fn1 : Notes := ⟨[], []⟩
theorem E_slices_ContainsFunc_Pay__fits_Fits_fn1_ok : EnvOK E_slices_ContainsFunc_Pay__fits_Fits_fn1 := ⟨eqOK_none, sumsOf_ok (List.forall_mem_cons.2 ⟨R_slices_IndexFunc_Pay__fits_Fits_fn1_ok, List.forall_mem_nil _⟩)⟩
theorem E_slices_ContainsFunc_Pay__fits_Fits_fn1_local : SumsLocal E_slices_ContainsFunc_Pay__fits_Fits_fn1.sums := sumsOf_local (List.forall_mem_cons.2 ⟨R_slices_IndexFunc_Pay__fits_Fits_fn1_local, List.forall_mem_nil _⟩)
def as_slices_ContainsFunc_Pay__fits_Fits_fn1 : List AS := [.c (.dat false (.pair (.int .i64) (.pair (.int .i64) (.pair (.int .i64) (.pair (.int .i64) (.pair (.int .i64) (.pair (.int .i64) (.int .i64)))))))), .fn 117 [[.dat false (.pair (.int .i64) (.pair (.int .i64) (.int .i64))), .dat false (.sl (.int .i64)), .dat false (.int .i64), .dat false (.sl (.int .i64))]]]
def rs_slices_ContainsFunc_Pay__fits_Fits_fn1 : RS := .c (.bool)
def pk_slices_ContainsFunc_Pay__fits_Fits_fn1 : Bool → RL rs_slices_ContainsFunc_Pay__fits_Fits_fn1.cells := fun x => (x, ())
def up_slices_ContainsFunc_Pay__fits_Fits_fn1 : RL rs_slices_ContainsFunc_Pay__fits_Fits_fn1.cells → Bool := fun d => d.1
def R_slices_ContainsFunc_Pay__fits_Fits_fn1 : Nat × Entry := (116, fun k nm args h => entry as_slices_ContainsFunc_Pay__fits_Fits_fn1 rs_slices_ContainsFunc_Pay__fits_Fits_fn1 (fun d => slices_ContainsFunc_Pay__fits_Fits_fn1 k d.1 d.2.1 d.2.2.1 d.2.2.2.1 d.2.2.2.2.1) pk_slices_ContainsFunc_Pay__fits_Fits_fn1 nm args h)
theorem slices_ContainsFunc_Pay__fits_Fits_fn1_ev (k : Nat) (d : AD as_slices_ContainsFunc_Pay__fits_Fits_fn1) : evF E_slices_ContainsFunc_Pay__fits_Fits_fn1 A_slices_ContainsFunc_Pay__fits_Fits_fn1 k 1000 0 Proofs.Try.f116 (absArgs as_slices_ContainsFunc_Pay__fits_Fits_fn1 d).1 (absArgs as_slices_ContainsFunc_Pay__fits_Fits_fn1 d).2 (outM rs_slices_ContainsFunc_Pay__fits_Fits_fn1 up_slices_ContainsFunc_Pay__fits_Fits_fn1) = slices_ContainsFunc_Pay__fits_Fits_fn1 k d.1 d.2.1 d.2.2.1 d.2.2.2.1 d.2.2.2.2.1 := by
  obtain ⟨_, _, _, _, _, _⟩ := d
  kernel_rfl
theorem R_slices_ContainsFunc_Pay__fits_Fits_fn1_ok : EntryOK Proofs.Try.prog R_slices_ContainsFunc_Pay__fits_Fits_fn1 := fun k _ _ _ _ _ hy =>
  entry_sound (unpack := up_slices_ContainsFunc_Pay__fits_Fits_fn1) (A := A_slices_ContainsFunc_Pay__fits_Fits_fn1) (k := k) (pre := 1000) (na := 0) (E := E_slices_ContainsFunc_Pay__fits_Fits_fn1) E_slices_ContainsFunc_Pay__fits_Fits_fn1_ok E_slices_ContainsFunc_Pay__fits_Fits_fn1_local mixed_orders (f := 116) (fn := Proofs.Try.f116) (by kernel_rfl) (body_loops (loopsOK_none (by kernel_rfl))) (enters (fn := Proofs.Try.f116) (by kernel_rfl) (by kernel_rfl) (by kernel_rfl)) (fun _ => rfl) (slices_ContainsFunc_Pay__fits_Fits_fn1_ev k) hy
theorem R_slices_ContainsFunc_Pay__fits_Fits_fn1_local : EntryLocal R_slices_ContainsFunc_Pay__fits_Fits_fn1.2 := entry_local (S := fun k (d : AD as_slices_ContainsFunc_Pay__fits_Fits_fn1) => slices_ContainsFunc_Pay__fits_Fits_fn1 k d.1 d.2.1 d.2.2.1 d.2.2.2.1 d.2.2.2.2.1)

/-! ### giro/fits.moved -/
noncomputable def E_fits_moved : Env := ⟨Proofs.Try.prog, fun _ => false, sumsOf [R_lim_Row, R_lim_Square]⟩
def I_fits_moved_L0 : Spec := ⟨[(4, .c (.lit (.ptr 1001000 0))), (5, .c (.lit (.ptr 1001001 0))), (15, .c (.dat false (.pair (.int .i64) (.pair (.int .i64) (.pair (.int .i64) (.pair (.int .i64) (.pair (.int .i64) (.pair (.int .i64) (.int .i64))))))))), (16, .c (.int .i64)), (17, .c (.int .i64))], [.box true [.lit .nsl, .lit .nsl, .lit .nsl], .box true [.lit (.osl 1001002 none), .lit (.osl 1001003 none), .lit (.osl 1001004 none)], .arr true (.int .i64), .arr true (.int .i64), .mat], []⟩
def O_fits_moved_L0 : List (Ex × Spec) := [(.exit 0, ⟨[(4, .c (.lit (.ptr 1001000 0))), (5, .c (.lit (.ptr 1001001 0)))], [.box true [.lit .nsl, .lit .nsl, .lit .nsl], .box true [.lit (.osl 1001002 none), .lit (.osl 1001003 none), .lit (.osl 1001004 none)], .arr true (.int .i64), .arr true (.int .i64), .mat], []⟩)]
def T_fits_moved_L0 : OutD O_fits_moved_L0 → (List Int) × (List Int) × (List (List Int)) := fun d => (d.2.2.2.1, d.2.2.2.2.1, d.2.2.2.2.2.1)
def e_fits_moved_L0 (base : Nat) (x : (List Int) × (List Int) × (List (List Int))) (R : Type) (K : Ex → St → Option R) : Option R := K (.exit 0) (stOf base ⟨[(4, .c (.lit (.ptr 1001000 0))), (5, .c (.lit (.ptr 1001001 0)))], [.box true [.lit .nsl, .lit .nsl, .lit .nsl], .box true [.lit (.osl 1001002 none), .lit (.osl 1001003 none), .lit (.osl 1001004 none)], .arr true (.int .i64), .arr true (.int .i64), .mat], []⟩ (((), (), ()), ((), (), x.1, x.2.1, x.2.2, ())))
def L_fits_moved_L0 : LoopSum := ⟨I_fits_moved_L0, O_fits_moved_L0, (List Int) × (List Int) × (List (List Int)), fun k d => fits_moved_L0 k k d.1.2.2.1.1 d.1.2.2.2.1.1 d.1.2.2.2.2.1.1 d.2.2.2.1 d.2.2.2.2.1 d.2.2.2.2.2.1, e_fits_moved_L0⟩
def A_fits_moved : Notes := ⟨[], [(3, L_fits_moved_L0)]⟩
theorem E_fits_moved_ok : EnvOK E_fits_moved := ⟨eqOK_none, sumsOf_ok (List.forall_mem_cons.2 ⟨R_lim_Row_ok, List.forall_mem_cons.2 ⟨R_lim_Square_ok, List.forall_mem_nil _⟩⟩)⟩
theorem E_fits_moved_local : SumsLocal E_fits_moved.sums := sumsOf_local (List.forall_mem_cons.2 ⟨R_lim_Row_local, List.forall_mem_cons.2 ⟨R_lim_Square_local, List.forall_mem_nil _⟩⟩)
theorem fits_moved_L0_step (k : Nat) (rec : List (Int × Int × Int × Int × Int × Int × Int) → Int → Int → List Int → List Int → List (List Int) → Option ((List Int) × (List Int) × (List (List Int)))) (d : I_fits_moved_L0.den) : fits_moved_L0b k rec d.1.2.2.1.1 d.1.2.2.2.1.1 d.1.2.2.2.2.1.1 d.2.2.2.1 d.2.2.2.2.1 d.2.2.2.2.2.1 = evC E_fits_moved A_fits_moved k 1000 0 84 (loopAt (bodyOf Proofs.Try.f130) 0) (stOf (1000 + loopBase) I_fits_moved_L0 d) (roundK 1000 I_fits_moved_L0 O_fits_moved_L0 T_fits_moved_L0 fun d => rec d.1.2.2.1.1 d.1.2.2.2.1.1 d.1.2.2.2.2.1.1 d.2.2.2.1 d.2.2.2.2.1 d.2.2.2.2.2.1) := by
  obtain ⟨⟨_, _, ⟨_, _⟩, ⟨_, _⟩, ⟨_, _⟩, _⟩, ⟨_, _, _, _, _, _⟩⟩ := d
  kernel_rfl
theorem fits_moved_L0_ok : LoopOK Proofs.Try.prog 1000 0 84 (loopAt (bodyOf Proofs.Try.f130) 0) L_fits_moved_L0 :=
  loop_sound (A := A_fits_moved) (inS := I_fits_moved_L0) (outs := O_fits_moved_L0) E_fits_moved_ok E_fits_moved_local mixed_orders (loopsOK_none (by kernel_rfl)) T_fits_moved_L0 e_fits_moved_L0 (fun _ _ _ => rfl) (fun k n d => fits_moved_L0 k n d.1.2.2.1.1 d.1.2.2.2.1.1 d.1.2.2.2.2.1.1 d.2.2.2.1 d.2.2.2.2.1 d.2.2.2.2.2.1) (fun _ _ => rfl) (fun k n d => fits_moved_L0_step k (fits_moved_L0 k n) d)
def as_fits_moved : List AS := [.c (.int .i64), .c (.dat false (.pair (.int .i64) (.pair (.int .i64) (.pair (.int .i64) (.pair (.int .i64) (.pair (.int .i64) (.pair (.int .i64) (.int .i64))))))))]
def rs_fits_moved : RS := .agg [.own (.int .i64), .own (.int .i64), .mat]
def pk_fits_moved : (List Int) × (List Int) × (List (List Int)) → RL rs_fits_moved.cells := fun x => (x.1, x.2.1, x.2.2, ())
def up_fits_moved : RL rs_fits_moved.cells → (List Int) × (List Int) × (List (List Int)) := fun d => (d.1, d.2.1, d.2.2.1)
def R_fits_moved : Nat × Entry := (130, fun k nm args h => entry as_fits_moved rs_fits_moved (fun d => fits_moved k d.1 d.2.1) pk_fits_moved nm args h)
theorem fits_moved_ev (k : Nat) (d : AD as_fits_moved) : evF E_fits_moved A_fits_moved k 1000 0 Proofs.Try.f130 (absArgs as_fits_moved d).1 (absArgs as_fits_moved d).2 (outM rs_fits_moved up_fits_moved) = fits_moved k d.1 d.2.1 := by
  obtain ⟨_, _, _⟩ := d
  kernel_rfl
theorem R_fits_moved_ok : EntryOK Proofs.Try.prog R_fits_moved := fun k _ _ _ _ _ hy =>
  entry_sound (unpack := up_fits_moved) (A := A_fits_moved) (k := k) (pre := 1000) (na := 0) (E := E_fits_moved) E_fits_moved_ok E_fits_moved_local mixed_orders (f := 130) (fn := Proofs.Try.f130) (by kernel_rfl) (body_loops (loopsOK_of (n := 1) (by kernel_rfl) fun i hi => match i, hi with | 0, _ => ⟨L_fits_moved_L0, by kernel_rfl, fits_moved_L0_ok⟩ | i + 1, hi => absurd hi (by omega))) (enters (fn := Proofs.Try.f130) (by kernel_rfl) (by kernel_rfl) (by kernel_rfl)) (fun _ => rfl) (fits_moved_ev k) hy
theorem R_fits_moved_local : EntryLocal R_fits_moved.2 := entry_local (S := fun k (d : AD as_fits_moved) => fits_moved k d.1 d.2.1)

/-! ### giro/fits.Short$1 -/
noncomputable def E_fits_Short_fn1 : Env := ⟨Proofs.Try.prog, fun _ => false, sumsOf []⟩
def A_fits_Short_fn1 : Notes := ⟨[], []⟩
theorem E_fits_Short_fn1_ok : EnvOK E_fits_Short_fn1 := ⟨eqOK_none, sumsOf_ok (List.forall_mem_nil _)⟩
theorem E_fits_Short_fn1_local : SumsLocal E_fits_Short_fn1.sums := sumsOf_local (List.forall_mem_nil _)
def as_fits_Short_fn1 : List AS := [.agg [.int .i64, .int .i64, .int .i64, .int .i64, .int .i64, .int .i64, .int .i64], .ptr [.int .i64]]
def rs_fits_Short_fn1 : RS := .c (.bool)
def pk_fits_Short_fn1 : Bool → RL rs_fits_Short_fn1.cells := fun x => (x, ())
def up_fits_Short_fn1 : RL rs_fits_Short_fn1.cells → Bool := fun d => d.1
def R_fits_Short_fn1 : Nat × Entry := (131, fun k nm args h => entry as_fits_Short_fn1 rs_fits_Short_fn1 (fun d => fits_Short_fn1 k d.1 d.2.1 d.2.2.1 d.2.2.2.1 d.2.2.2.2.1 d.2.2.2.2.2.1 d.2.2.2.2.2.2.1 d.2.2.2.2.2.2.2.1) pk_fits_Short_fn1 nm args h)
theorem fits_Short_fn1_ev (k : Nat) (d : AD as_fits_Short_fn1) : evF E_fits_Short_fn1 A_fits_Short_fn1 k 1000 0 Proofs.Try.f131 (absArgs as_fits_Short_fn1 d).1 (absArgs as_fits_Short_fn1 d).2 (outM rs_fits_Short_fn1 up_fits_Short_fn1) = fits_Short_fn1 k d.1 d.2.1 d.2.2.1 d.2.2.2.1 d.2.2.2.2.1 d.2.2.2.2.2.1 d.2.2.2.2.2.2.1 d.2.2.2.2.2.2.2.1 := by
  obtain ⟨_, _, _, _, _, _, _, _, _⟩ := d
  kernel_rfl
theorem R_fits_Short_fn1_ok : EntryOK Proofs.Try.prog R_fits_Short_fn1 := fun k _ _ _ _ _ hy =>
  entry_sound (unpack := up_fits_Short_fn1) (A := A_fits_Short_fn1) (k := k) (pre := 1000) (na := 0) (E := E_fits_Short_fn1) E_fits_Short_fn1_ok E_fits_Short_fn1_local mixed_orders (f := 131) (fn := Proofs.Try.f131) (by kernel_rfl) (body_loops (loopsOK_none (by kernel_rfl))) (enters (fn := Proofs.Try.f131) (by kernel_rfl) (by kernel_rfl) (by kernel_rfl)) (fun _ => rfl) (fits_Short_fn1_ev k) hy
theorem R_fits_Short_fn1_local : EntryLocal R_fits_Short_fn1.2 := entry_local (S := fun k (d : AD as_fits_Short_fn1) => fits_Short_fn1 k d.1 d.2.1 d.2.2.1 d.2.2.2.1 d.2.2.2.2.1 d.2.2.2.2.2.1 d.2.2.2.2.2.2.1 d.2.2.2.2.2.2.2.1)

/-! ### slices.IndexFunc[[]giro/api.Pay,giro/api.Pay] -/
noncomputable def E_slices_IndexFunc_Pay__fits_Short_fn1 : Env := ⟨Proofs.Try.prog, fun _ => false, sumsOf [R_fits_Short_fn1]⟩
def I_slices_IndexFunc_Pay__fits_Short_fn1_L0 : Spec := ⟨[(0, .c (.dat false (.pair (.int .i64) (.pair (.int .i64) (.pair (.int .i64) (.pair (.int .i64) (.pair (.int .i64) (.pair (.int .i64) (.int .i64))))))))), (1, .c (.lit (.fn 131 [1001000]))), (7, .c (.int .i64)), (8, .c (.int .i64))], [.robox [.int .i64]], []⟩
def O_slices_IndexFunc_Pay__fits_Short_fn1_L0 : List (Ex × Spec) := [(.exit 0, ⟨[], [], []⟩), (.ret, ⟨[(4, .c (.int .i64))], [], []⟩)]
def T_slices_IndexFunc_Pay__fits_Short_fn1_L0 : OutD O_slices_IndexFunc_Pay__fits_Short_fn1_L0 → Unit ⊕ Int
 | .inl d => .inl ()
 | .inr d => .inr d.1.1.1
def e_slices_IndexFunc_Pay__fits_Short_fn1_L0 (base : Nat) (x : Unit ⊕ Int) (R : Type) (K : Ex → St → Option R) : Option R := match x with
 | .inl x => K (.exit 0) (stOf base ⟨[], [], []⟩ ((), ()))
 | .inr x => K .ret (stOf base ⟨[(4, .c (.int .i64))], [], []⟩ (((x, ()), ()), ()))
def L_slices_IndexFunc_Pay__fits_Short_fn1_L0 : LoopSum := ⟨I_slices_IndexFunc_Pay__fits_Short_fn1_L0, O_slices_IndexFunc_Pay__fits_Short_fn1_L0, Unit ⊕ Int, fun k d => slices_IndexFunc_Pay__fits_Short_fn1_L0 k k d.1.1.1 d.1.2.2.1.1 d.1.2.2.2.1.1 d.2.1.1, e_slices_IndexFunc_Pay__fits_Short_fn1_L0⟩
def A_slices_IndexFunc_Pay__fits_Short_fn1 : Notes := ⟨[], [(2, L_slices_IndexFunc_Pay__fits_Short_fn1_L0)]⟩
theorem E_slices_IndexFunc_Pay__fits_Short_fn1_ok : EnvOK E_slices_IndexFunc_Pay__fits_Short_fn1 := ⟨eqOK_none, sumsOf_ok (List.forall_mem_cons.2 ⟨R_fits_Short_fn1_ok, List.forall_mem_nil _⟩)⟩
theorem E_slices_IndexFunc_Pay__fits_Short_fn1_local : SumsLocal E_slices_IndexFunc_Pay__fits_Short_fn1.sums := sumsOf_local (List.forall_mem_cons.2 ⟨R_fits_Short_fn1_local, List.forall_mem_nil _⟩)
theorem slices_IndexFunc_Pay__fits_Short_fn1_L0_step (k : Nat) (rec : List (Int × Int × Int × Int × Int × Int × Int) → Int → Int → Int → Option (Unit ⊕ Int)) (d : I_slices_IndexFunc_Pay__fits_Short_fn1_L0.den) : slices_IndexFunc_Pay__fits_Short_fn1_L0b k rec d.1.1.1 d.1.2.2.1.1 d.1.2.2.2.1.1 d.2.1.1 = evC E_slices_IndexFunc_Pay__fits_Short_fn1 A_slices_IndexFunc_Pay__fits_Short_fn1 k 1000 0 19 (loopAt (bodyOf Proofs.Try.f122) 0) (stOf (1000 + loopBase) I_slices_IndexFunc_Pay__fits_Short_fn1_L0 d) (roundK 1000 I_slices_IndexFunc_Pay__fits_Short_fn1_L0 O_slices_IndexFunc_Pay__fits_Short_fn1_L0 T_slices_IndexFunc_Pay__fits_Short_fn1_L0 fun d => rec d.1.1.1 d.1.2.2.1.1 d.1.2.2.2.1.1 d.2.1.1) := by
  obtain ⟨⟨⟨_, _⟩, _, ⟨_, _⟩, ⟨_, _⟩, _⟩, ⟨⟨_, _⟩, _⟩⟩ := d
  kernel_rfl
theorem slices_IndexFunc_Pay__fits_Short_fn1_L0_ok : LoopOK Proofs.Try.prog 1000 0 19 (loopAt (bodyOf Proofs.Try.f122) 0) L_slices_IndexFunc_Pay__fits_Short_fn1_L0 :=
  loop_sound (A := A_slices_IndexFunc_Pay__fits_Short_fn1) (inS := I_slices_IndexFunc_Pay__fits_Short_fn1_L0) (outs := O_slices_IndexFunc_Pay__fits_Short_fn1_L0) E_slices_IndexFunc_Pay__fits_Short_fn1_ok E_slices_IndexFunc_Pay__fits_Short_fn1_local mixed_orders (loopsOK_none (by kernel_rfl)) T_slices_IndexFunc_Pay__fits_Short_fn1_L0 e_slices_IndexFunc_Pay__fits_Short_fn1_L0 (by intro o R K; rcases o with o | o <;> rfl) (fun k n d => slices_IndexFunc_Pay__fits_Short_fn1_L0 k n d.1.1.1 d.1.2.2.1.1 d.1.2.2.2.1.1 d.2.1.1) (fun _ _ => rfl) (fun k n d => slices_IndexFunc_Pay__fits_Short_fn1_L0_step k (slices_IndexFunc_Pay__fits_Short_fn1_L0 k n) d)
def as_slices_IndexFunc_Pay__fits_Short_fn1 : List AS := [.c (.dat false (.pair (.int .i64) (.pair (.int .i64) (.pair (.int .i64) (.pair (.int .i64) (.pair (.int .i64) (.pair (.int .i64) (.int .i64)))))))), .fn 131 [[.int .i64]]]
def rs_slices_IndexFunc_Pay__fits_Short_fn1 : RS := .c (.int .i64)
def pk_slices_IndexFunc_Pay__fits_Short_fn1 : Int → RL rs_slices_IndexFunc_Pay__fits_Short_fn1.cells := fun x => (x, ())
def up_slices_IndexFunc_Pay__fits_Short_fn1 : RL rs_slices_IndexFunc_Pay__fits_Short_fn1.cells → Int := fun d => d.1
def R_slices_IndexFunc_Pay__fits_Short_fn1 : Nat × Entry := (122, fun k nm args h => entry as_slices_IndexFunc_Pay__fits_Short_fn1 rs_slices_IndexFunc_Pay__fits_Short_fn1 (fun d => slices_IndexFunc_Pay__fits_Short_fn1 k d.1 d.2.1) pk_slices_IndexFunc_Pay__fits_Short_fn1 nm args h)
theorem slices_IndexFunc_Pay__fits_Short_fn1_ev (k : Nat) (d : AD as_slices_IndexFunc_Pay__fits_Short_fn1) : evF E_slices_IndexFunc_Pay__fits_Short_fn1 A_slices_IndexFunc_Pay__fits_Short_fn1 k 1000 0 Proofs.Try.f122 (absArgs as_slices_IndexFunc_Pay__fits_Short_fn1 d).1 (absArgs as_slices_IndexFunc_Pay__fits_Short_fn1 d).2 (outM rs_slices_IndexFunc_Pay__fits_Short_fn1 up_slices_IndexFunc_Pay__fits_Short_fn1) = slices_IndexFunc_Pay__fits_Short_fn1 k d.1 d.2.1 := by
  obtain ⟨_, _, _⟩ := d
  kernel_rfl
theorem R_slices_IndexFunc_Pay__fits_Short_fn1_ok : EntryOK Proofs.Try.prog R_slices_IndexFunc_Pay__fits_Short_fn1 := fun k _ _ _ _ _ hy =>
  entry_sound (unpack := up_slices_IndexFunc_Pay__fits_Short_fn1) (A := A_slices_IndexFunc_Pay__fits_Short_fn1) (k := k) (pre := 1000) (na := 0) (E := E_slices_IndexFunc_Pay__fits_Short_fn1) E_slices_IndexFunc_Pay__fits_Short_fn1_ok E_slices_IndexFunc_Pay__fits_Short_fn1_local mixed_orders (f := 122) (fn := Proofs.Try.f122) (by kernel_rfl) (body_loops (loopsOK_of (n := 1) (by kernel_rfl) fun i hi => match i, hi with | 0, _ => ⟨L_slices_IndexFunc_Pay__fits_Short_fn1_L0, by kernel_rfl, slices_IndexFunc_Pay__fits_Short_fn1_L0_ok⟩ | i + 1, hi => absurd hi (by omega))) (enters (fn := Proofs.Try.f122) (by kernel_rfl) (by kernel_rfl) (by kernel_rfl)) (fun _ => rfl) (slices_IndexFunc_Pay__fits_Short_fn1_ev k) hy
theorem R_slices_IndexFunc_Pay__fits_Short_fn1_local : EntryLocal R_slices_IndexFunc_Pay__fits_Short_fn1.2 := entry_local (S := fun k (d : AD as_slices_IndexFunc_Pay__fits_Short_fn1) => slices_IndexFunc_Pay__fits_Short_fn1 k d.1 d.2.1)

/-! ### slices.ContainsFunc[[]giro/api.Pay,giro/api.Pay] -/
noncomputable def E_slices_ContainsFunc_Pay__fits_Short_fn1 : Env := ⟨Proofs.Try.prog, fun _ => false, sumsOf [R_slices_IndexFunc_Pay__fits_Short_fn1]⟩
def A_slices_ContainsFunc_Pay__fits_Short_fn1 : Notes := ⟨[], []⟩
theorem E_slices_ContainsFunc_Pay__fits_Short_fn1_ok : EnvOK E_slices_ContainsFunc_Pay__fits_Short_fn1 := ⟨eqOK_none, sumsOf_ok (List.forall_mem_cons.2 ⟨R_slices_IndexFunc_Pay__fits_Short_fn1_ok, List.forall_mem_nil _⟩)⟩
theorem E_slices_ContainsFunc_Pay__fits_Short_fn1_local : SumsLocal E_slices_ContainsFunc_Pay__fits_Short_fn1.sums := sumsOf_local (List.forall_mem_cons.2 ⟨R_slices_IndexFunc_Pay__fits_Short_fn1_local, List.forall_mem_nil _⟩)
def as_slices_ContainsFunc_Pay__fits_Short_fn1 : List AS := [.c (.dat false (.pair (.int .i64) (.pair (.int .i64) (.pair (.int .i64) (.pair (.int .i64) (.pair (.int .i64) (.pair (.int .i64) (.int .i64)))))))), .fn 131 [[.int .i64]]]
def rs_slices_ContainsFunc_Pay__fits_Short_fn1 : RS := .c (.bool)
def pk_slices_ContainsFunc_Pay__fits_Short_fn1 : Bool → RL rs_slices_ContainsFunc_Pay__fits_Short_fn1.cells := fun x => (x, ())
def up_slices_ContainsFunc_Pay__fits_Short_fn1 : RL rs_slices_ContainsFunc_Pay__fits_Short_fn1.cells → Bool := fun d => d.1
def R_slices_ContainsFunc_Pay__fits_Short_fn1 : Nat × Entry := (116, fun k nm args h => entry as_slices_ContainsFunc_Pay__fits_Short_fn1 rs_slices_ContainsFunc_Pay__fits_Short_fn1 (fun d => slices_ContainsFunc_Pay__fits_Short_fn1 k d.1 d.2.1) pk_slices_ContainsFunc_Pay__fits_Short_fn1 nm args h)
theorem slices_ContainsFunc_Pay__fits_Short_fn1_ev (k : Nat) (d : AD as_slices_ContainsFunc_Pay__fits_Short_fn1) : evF E_slices_ContainsFunc_Pay__fits_Short_fn1 A_slices_ContainsFunc_Pay__fits_Short_fn1 k 1000 0 Proofs.Try.f116 (absArgs as_slices_ContainsFunc_Pay__fits_Short_fn1 d).1 (absArgs as_slices_ContainsFunc_Pay__fits_Short_fn1 d).2 (outM rs_slices_ContainsFunc_Pay__fits_Short_fn1 up_slices_ContainsFunc_Pay__fits_Short_fn1) = slices_ContainsFunc_Pay__fits_Short_fn1 k d.1 d.2.1 := by
  obtain ⟨_, _, _⟩ := d
  kernel_rfl
theorem R_slices_ContainsFunc_Pay__fits_Short_fn1_ok : EntryOK Proofs.Try.prog R_slices_ContainsFunc_Pay__fits_Short_fn1 := fun k _ _ _ _ _ hy =>
  entry_sound (unpack := up_slices_ContainsFunc_Pay__fits_Short_fn1) (A := A_slices_ContainsFunc_Pay__fits_Short_fn1) (k := k) (pre := 1000) (na := 0) (E := E_slices_ContainsFunc_Pay__fits_Short_fn1) E_slices_ContainsFunc_Pay__fits_Short_fn1_ok E_slices_ContainsFunc_Pay__fits_Short_fn1_local mixed_orders (f := 116) (fn := Proofs.Try.f116) (by kernel_rfl) (body_loops (loopsOK_none (by kernel_rfl))) (enters (fn := Proofs.Try.f116) (by kernel_rfl) (by kernel_rfl) (by kernel_rfl)) (fun _ => rfl) (slices_ContainsFunc_Pay__fits_Short_fn1_ev k) hy
theorem R_slices_ContainsFunc_Pay__fits_Short_fn1_local : EntryLocal R_slices_ContainsFunc_Pay__fits_Short_fn1.2 := entry_local (S := fun k (d : AD as_slices_ContainsFunc_Pay__fits_Short_fn1) => slices_ContainsFunc_Pay__fits_Short_fn1 k d.1 d.2.1)

/-! ### giro/fits.over -/
noncomputable def E_fits_over : Env := ⟨Proofs.Try.prog, fun _ => false, sumsOf []⟩
def A_fits_over : Notes := ⟨[], []⟩
theorem E_fits_over_ok : EnvOK E_fits_over := ⟨eqOK_none, sumsOf_ok (List.forall_mem_nil _)⟩
theorem E_fits_over_local : SumsLocal E_fits_over.sums := sumsOf_local (List.forall_mem_nil _)
def as_fits_over : List AS := [.c (.int .i64), .c (.int .i64)]
def rs_fits_over : RS := .c (.bool)
def pk_fits_over : Bool → RL rs_fits_over.cells := fun x => (x, ())
def up_fits_over : RL rs_fits_over.cells → Bool := fun d => d.1
def R_fits_over : Nat × Entry := (134, fun k nm args h => entry as_fits_over rs_fits_over (fun d => fits_over k d.1 d.2.1) pk_fits_over nm args h)
theorem fits_over_ev (k : Nat) (d : AD as_fits_over) : evF E_fits_over A_fits_over k 1000 0 Proofs.Try.f134 (absArgs as_fits_over d).1 (absArgs as_fits_over d).2 (outM rs_fits_over up_fits_over) = fits_over k d.1 d.2.1 := by
  obtain ⟨_, _, _⟩ := d
  kernel_rfl
theorem R_fits_over_ok : EntryOK Proofs.Try.prog R_fits_over := fun k _ _ _ _ _ hy =>
  entry_sound (unpack := up_fits_over) (A := A_fits_over) (k := k) (pre := 1000) (na := 0) (E := E_fits_over) E_fits_over_ok E_fits_over_local mixed_orders (f := 134) (fn := Proofs.Try.f134) (by kernel_rfl) (body_loops (loopsOK_none (by kernel_rfl))) (enters (fn := Proofs.Try.f134) (by kernel_rfl) (by kernel_rfl) (by kernel_rfl)) (fun _ => rfl) (fits_over_ev k) hy
theorem R_fits_over_local : EntryLocal R_fits_over.2 := entry_local (S := fun k (d : AD as_fits_over) => fits_over k d.1 d.2.1)

/-! ### giro/acct.Kept -/
noncomputable def E_acct_Kept : Env := ⟨Proofs.Try.prog, fun _ => false, sumsOf []⟩
def A_acct_Kept : Notes := ⟨[], []⟩
theorem E_acct_Kept_ok : EnvOK E_acct_Kept := ⟨eqOK_none, sumsOf_ok (List.forall_mem_nil _)⟩
theorem E_acct_Kept_local : SumsLocal E_acct_Kept.sums := sumsOf_local (List.forall_mem_nil _)
def as_acct_Kept : List AS := [.agg [.int .i64, .int .i64, .int .i64], .c (.int .i64)]
def rs_acct_Kept : RS := .c (.int .i64)
def pk_acct_Kept : Int → RL rs_acct_Kept.cells := fun x => (x, ())
def up_acct_Kept : RL rs_acct_Kept.cells → Int := fun d => d.1
def R_acct_Kept : Nat × Entry := (121, fun k nm args h => entry as_acct_Kept rs_acct_Kept (fun d => acct_Kept k d.1 d.2.1 d.2.2.1 d.2.2.2.1) pk_acct_Kept nm args h)
theorem acct_Kept_ev (k : Nat) (d : AD as_acct_Kept) : evF E_acct_Kept A_acct_Kept k 1000 0 Proofs.Try.f121 (absArgs as_acct_Kept d).1 (absArgs as_acct_Kept d).2 (outM rs_acct_Kept up_acct_Kept) = acct_Kept k d.1 d.2.1 d.2.2.1 d.2.2.2.1 := by
  obtain ⟨_, _, _, _, _⟩ := d
  kernel_rfl
theorem R_acct_Kept_ok : EntryOK Proofs.Try.prog R_acct_Kept := fun k _ _ _ _ _ hy =>
  entry_sound (unpack := up_acct_Kept) (A := A_acct_Kept) (k := k) (pre := 1000) (na := 0) (E := E_acct_Kept) E_acct_Kept_ok E_acct_Kept_local mixed_orders (f := 121) (fn := Proofs.Try.f121) (by kernel_rfl) (body_loops (loopsOK_none (by kernel_rfl))) (enters (fn := Proofs.Try.f121) (by kernel_rfl) (by kernel_rfl) (by kernel_rfl)) (fun _ => rfl) (acct_Kept_ev k) hy
theorem R_acct_Kept_local : EntryLocal R_acct_Kept.2 := entry_local (S := fun k (d : AD as_acct_Kept) => acct_Kept k d.1 d.2.1 d.2.2.1 d.2.2.2.1)

/-! ### (giro/fits.move).isShort$1 -/
noncomputable def E_fits_move_isShort_fn1 : Env := ⟨Proofs.Try.prog, fun _ => false, sumsOf [R_acct_Kept, R_fits_over]⟩
def A_fits_move_isShort_fn1 : Notes := ⟨[], []⟩
theorem E_fits_move_isShort_fn1_ok : EnvOK E_fits_move_isShort_fn1 := ⟨eqOK_none, sumsOf_ok (List.forall_mem_cons.2 ⟨R_acct_Kept_ok, List.forall_mem_cons.2 ⟨R_fits_over_ok, List.forall_mem_nil _⟩⟩)⟩
theorem E_fits_move_isShort_fn1_local : SumsLocal E_fits_move_isShort_fn1.sums := sumsOf_local (List.forall_mem_cons.2 ⟨R_acct_Kept_local, List.forall_mem_cons.2 ⟨R_fits_over_local, List.forall_mem_nil _⟩⟩)
def as_fits_move_isShort_fn1 : List AS := [.agg [.int .i64, .int .i64, .int .i64, .int .i64, .int .i64, .int .i64, .int .i64], .ptr [.int .i64], .ptr [.int .i64, .int .i64, .int .i64], .ptr [.dat false (.int .i64), .dat false (.int .i64), .dat false (.sl (.int .i64))], .ptr [.int .i64], .ptr [.dat false (.pair (.int .i64) (.pair (.int .i64) (.int .i64))), .dat false (.sl (.int .i64)), .dat false (.int .i64), .dat false (.sl (.int .i64))]]
def rs_fits_move_isShort_fn1 : RS := .c (.bool)
def pk_fits_move_isShort_fn1 : Bool → RL rs_fits_move_isShort_fn1.cells := fun x => (x, ())
def up_fits_move_isShort_fn1 : RL rs_fits_move_isShort_fn1.cells → Bool := fun d => d.1
def R_fits_move_isShort_fn1 : Nat × Entry := (135, fun k nm args h => entry as_fits_move_isShort_fn1 rs_fits_move_isShort_fn1 (fun d => fits_move_isShort_fn1 k d.1 d.2.1 d.2.2.1 d.2.2.2.1 d.2.2.2.2.1 d.2.2.2.2.2.1 d.2.2.2.2.2.2.1 d.2.2.2.2.2.2.2.1 d.2.2.2.2.2.2.2.2.1 d.2.2.2.2.2.2.2.2.2.1 d.2.2.2.2.2.2.2.2.2.2.1 d.2.2.2.2.2.2.2.2.2.2.2.1 d.2.2.2.2.2.2.2.2.2.2.2.2.1 d.2.2.2.2.2.2.2.2.2.2.2.2.2.1 d.2.2.2.2.2.2.2.2.2.2.2.2.2.2.1 d.2.2.2.2.2.2.2.2.2.2.2.2.2.2.2.1 d.2.2.2.2.2.2.2.2.2.2.2.2.2.2.2.2.1 d.2.2.2.2.2.2.2.2.2.2.2.2.2.2.2.2.2.1 d.2.2.2.2.2.2.2.2.2.2.2.2.2.2.2.2.2.2.1) pk_fits_move_isShort_fn1 nm args h)
theorem fits_move_isShort_fn1_ev (k : Nat) (d : AD as_fits_move_isShort_fn1) : evF E_fits_move_isShort_fn1 A_fits_move_isShort_fn1 k 1000 0 Proofs.Try.f135 (absArgs as_fits_move_isShort_fn1 d).1 (absArgs as_fits_move_isShort_fn1 d).2 (outM rs_fits_move_isShort_fn1 up_fits_move_isShort_fn1) = fits_move_isShort_fn1 k d.1 d.2.1 d.2.2.1 d.2.2.2.1 d.2.2.2.2.1 d.2.2.2.2.2.1 d.2.2.2.2.2.2.1 d.2.2.2.2.2.2.2.1 d.2.2.2.2.2.2.2.2.1 d.2.2.2.2.2.2.2.2.2.1 d.2.2.2.2.2.2.2.2.2.2.1 d.2.2.2.2.2.2.2.2.2.2.2.1 d.2.2.2.2.2.2.2.2.2.2.2.2.1 d.2.2.2.2.2.2.2.2.2.2.2.2.2.1 d.2.2.2.2.2.2.2.2.2.2.2.2.2.2.1 d.2.2.2.2.2.2.2.2.2.2.2.2.2.2.2.1 d.2.2.2.2.2.2.2.2.2.2.2.2.2.2.2.2.1 d.2.2.2.2.2.2.2.2.2.2.2.2.2.2.2.2.2.1 d.2.2.2.2.2.2.2.2.2.2.2.2.2.2.2.2.2.2.1 := by
  obtain ⟨_, _, _, _, _, _, _, _, _, _, _, _, _, _, _, _, _, _, _, _⟩ := d
  kernel_rfl
theorem R_fits_move_isShort_fn1_ok : EntryOK Proofs.Try.prog R_fits_move_isShort_fn1 := fun k _ _ _ _ _ hy =>
  entry_sound (unpack := up_fits_move_isShort_fn1) (A := A_fits_move_isShort_fn1) (k := k) (pre := 1000) (na := 0) (E := E_fits_move_isShort_fn1) E_fits_move_isShort_fn1_ok E_fits_move_isShort_fn1_local mixed_orders (f := 135) (fn := Proofs.Try.f135) (by kernel_rfl) (body_loops (loopsOK_none (by kernel_rfl))) (enters (fn := Proofs.Try.f135) (by kernel_rfl) (by kernel_rfl) (by kernel_rfl)) (fun _ => rfl) (fits_move_isShort_fn1_ev k) hy
theorem R_fits_move_isShort_fn1_local : EntryLocal R_fits_move_isShort_fn1.2 := entry_local (S := fun k (d : AD as_fits_move_isShort_fn1) => fits_move_isShort_fn1 k d.1 d.2.1 d.2.2.1 d.2.2.2.1 d.2.2.2.2.1 d.2.2.2.2.2.1 d.2.2.2.2.2.2.1 d.2.2.2.2.2.2.2.1 d.2.2.2.2.2.2.2.2.1 d.2.2.2.2.2.2.2.2.2.1 d.2.2.2.2.2.2.2.2.2.2.1 d.2.2.2.2.2.2.2.2.2.2.2.1 d.2.2.2.2.2.2.2.2.2.2.2.2.1 d.2.2.2.2.2.2.2.2.2.2.2.2.2.1 d.2.2.2.2.2.2.2.2.2.2.2.2.2.2.1 d.2.2.2.2.2.2.2.2.2.2.2.2.2.2.2.1 d.2.2.2.2.2.2.2.2.2.2.2.2.2.2.2.2.1 d.2.2.2.2.2.2.2.2.2.2.2.2.2.2.2.2.2.1 d.2.2.2.2.2.2.2.2.2.2.2.2.2.2.2.2.2.2.1)

/-! ### slices.IndexFunc[[]giro/api.Pay,giro/api.Pay] -/
noncomputable def E_slices_IndexFunc_Pay__fits_move_isShort_fn1 : Env := ⟨Proofs.Try.prog, fun _ => false, sumsOf [R_fits_move_isShort_fn1]⟩
def I_slices_IndexFunc_Pay__fits_move_isShort_fn1_L0 : Spec := ⟨[(0, .c (.dat false (.pair (.int .i64) (.pair (.int .i64) (.pair (.int .i64) (.pair (.int .i64) (.pair (.int .i64) (.pair (.int .i64) (.int .i64))))))))), (1, .c (.lit (.fn 135 [1001000, 1001001, 1001002, 1001003, 1001004]))), (7, .c (.int .i64)), (8, .c (.int .i64))], [.robox [.int .i64], .robox [.int .i64, .int .i64, .int .i64], .robox [.dat false (.int .i64), .dat false (.int .i64), .dat false (.sl (.int .i64))], .robox [.int .i64], .robox [.dat false (.pair (.int .i64) (.pair (.int .i64) (.int .i64))), .dat false (.sl (.int .i64)), .dat false (.int .i64), .dat false (.sl (.int .i64))]], []⟩
def O_slices_IndexFunc_Pay__fits_move_isShort_fn1_L0 : List (Ex × Spec) := [(.exit 0, ⟨[], [], []⟩), (.ret, ⟨[(4, .c (.int .i64))], [], []⟩)]
def T_slices_IndexFunc_Pay__fits_move_isShort_fn1_L0 : OutD O_slices_IndexFunc_Pay__fits_move_isShort_fn1_L0 → Unit ⊕ Int
 | .inl d => .inl ()
 | .inr d => .inr d.1.1.1
def e_slices_IndexFunc_Pay__fits_move_isShort_fn1_L0 (base : Nat) (x : Unit ⊕ Int) (R : Type) (K : Ex → St → Option R) : Option R := match x with
 | .inl x => K (.exit 0) (stOf base ⟨[], [], []⟩ ((), ()))
 | .inr x => K .ret (stOf base ⟨[(4, .c (.int .i64))], [], []⟩ (((x, ()), ()), ()))
def L_slices_IndexFunc_Pay__fits_move_isShort_fn1_L0 : LoopSum := ⟨I_slices_IndexFunc_Pay__fits_move_isShort_fn1_L0, O_slices_IndexFunc_Pay__fits_move_isShort_fn1_L0, Unit ⊕ Int, fun k d => slices_IndexFunc_Pay__fits_move_isShort_fn1_L0 k k d.1.1.1 d.1.2.2.1.1 d.1.2.2.2.1.1 d.2.1.1 d.2.2.1.1 d.2.2.1.2.1 d.2.2.1.2.2.1 d.2.2.2.1.1 d.2.2.2.1.2.1 d.2.2.2.1.2.2.1 d.2.2.2.2.1.1 d.2.2.2.2.2.1.1 d.2.2.2.2.2.1.2.1 d.2.2.2.2.2.1.2.2.1 d.2.2.2.2.2.1.2.2.2.1, e_slices_IndexFunc_Pay__fits_move_isShort_fn1_L0⟩
def A_slices_IndexFunc_Pay__fits_move_isShort_fn1 : Notes := ⟨[], [(2, L_slices_IndexFunc_Pay__fits_move_isShort_fn1_L0)]⟩
theorem E_slices_IndexFunc_Pay__fits_move_isShort_fn1_ok : EnvOK E_slices_IndexFunc_Pay__fits_move_isShort_fn1 := ⟨eqOK_none, sumsOf_ok (List.forall_mem_cons.2 ⟨R_fits_move_isShort_fn1_ok, List.forall_mem_nil _⟩)⟩
theorem E_slices_IndexFunc_Pay__fits_move_isShort_fn1_local : SumsLocal E_slices_IndexFunc_Pay__fits_move_isShort_fn1.sums := sumsOf_local (List.forall_mem_cons.2 ⟨R_fits_move_isShort_fn1_local, List.forall_mem_nil _⟩)
theorem slices_IndexFunc_Pay__fits_move_isShort_fn1_L0_step (k : Nat) (rec : List (Int × Int × Int × Int × Int × Int × Int) → Int → Int → Int → Int → Int → Int → List Int → List Int → List (List Int) → Int → List (Int × Int × Int) → List (List Int) → List Int → List (List Int) → Option (Unit ⊕ Int)) (d : I_slices_IndexFunc_Pay__fits_move_isShort_fn1_L0.den) : slices_IndexFunc_Pay__fits_move_isShort_fn1_L0b k rec d.1.1.1 d.1.2.2.1.1 d.1.2.2.2.1.1 d.2.1.1 d.2.2.1.1 d.2.2.1.2.1 d.2.2.1.2.2.1 d.2.2.2.1.1 d.2.2.2.1.2.1 d.2.2.2.1.2.2.1 d.2.2.2.2.1.1 d.2.2.2.2.2.1.1 d.2.2.2.2.2.1.2.1 d.2.2.2.2.2.1.2.2.1 d.2.2.2.2.2.1.2.2.2.1 = evC E_slices_IndexFunc_Pay__fits_move_isShort_fn1 A_slices_IndexFunc_Pay__fits_move_isShort_fn1 k 1000 0 19 (loopAt (bodyOf Proofs.Try.f122) 0) (stOf (1000 + loopBase) I_slices_IndexFunc_Pay__fits_move_isShort_fn1_L0 d) (roundK 1000 I_slices_IndexFunc_Pay__fits_move_isShort_fn1_L0 O_slices_IndexFunc_Pay__fits_move_isShort_fn1_L0 T_slices_IndexFunc_Pay__fits_move_isShort_fn1_L0 fun d => rec d.1.1.1 d.1.2.2.1.1 d.1.2.2.2.1.1 d.2.1.1 d.2.2.1.1 d.2.2.1.2.1 d.2.2.1.2.2.1 d.2.2.2.1.1 d.2.2.2.1.2.1 d.2.2.2.1.2.2.1 d.2.2.2.2.1.1 d.2.2.2.2.2.1.1 d.2.2.2.2.2.1.2.1 d.2.2.2.2.2.1.2.2.1 d.2.2.2.2.2.1.2.2.2.1) := by
  obtain ⟨⟨⟨_, _⟩, _, ⟨_, _⟩, ⟨_, _⟩, _⟩, ⟨⟨_, _⟩, ⟨_, _, _, _⟩, ⟨_, _, _, _⟩, ⟨_, _⟩, ⟨_, _, _, _, _⟩, _⟩⟩ := d
  kernel_rfl
theorem slices_IndexFunc_Pay__fits_move_isShort_fn1_L0_ok : LoopOK Proofs.Try.prog 1000 0 19 (loopAt (bodyOf Proofs.Try.f122) 0) L_slices_IndexFunc_Pay__fits_move_isShort_fn1_L0 :=
  loop_sound (A := A_slices_IndexFunc_Pay__fits_move_isShort_fn1) (inS := I_slices_IndexFunc_Pay__fits_move_isShort_fn1_L0) (outs := O_slices_IndexFunc_Pay__fits_move_isShort_fn1_L0) E_slices_IndexFunc_Pay__fits_move_isShort_fn1_ok E_slices_IndexFunc_Pay__fits_move_isShort_fn1_local mixed_orders (loopsOK_none (by kernel_rfl)) T_slices_IndexFunc_Pay__fits_move_isShort_fn1_L0 e_slices_IndexFunc_Pay__fits_move_isShort_fn1_L0 (by intro o R K; rcases o with o | o <;> rfl) (fun k n d => slices_IndexFunc_Pay__fits_move_isShort_fn1_L0 k n d.1.1.1 d.1.2.2.1.1 d.1.2.2.2.1.1 d.2.1.1 d.2.2.1.1 d.2.2.1.2.1 d.2.2.1.2.2.1 d.2.2.2.1.1 d.2.2.2.1.2.1 d.2.2.2.1.2.2.1 d.2.2.2.2.1.1 d.2.2.2.2.2.1.1 d.2.2.2.2.2.1.2.1 d.2.2.2.2.2.1.2.2.1 d.2.2.2.2.2.1.2.2.2.1) (fun _ _ => rfl) (fun k n d => slices_IndexFunc_Pay__fits_move_isShort_fn1_L0_step k (slices_IndexFunc_Pay__fits_move_isShort_fn1_L0 k n) d)
def as_slices_IndexFunc_Pay__fits_move_isShort_fn1 : List AS := [.c (.dat false (.pair (.int .i64) (.pair (.int .i64) (.pair (.int .i64) (.pair (.int .i64) (.pair (.int .i64) (.pair (.int .i64) (.int .i64)))))))), .fn 135 [[.int .i64], [.int .i64, .int .i64, .int .i64], [.dat false (.int .i64), .dat false (.int .i64), .dat false (.sl (.int .i64))], [.int .i64], [.dat false (.pair (.int .i64) (.pair (.int .i64) (.int .i64))), .dat false (.sl (.int .i64)), .dat false (.int .i64), .dat false (.sl (.int .i64))]]]
def rs_slices_IndexFunc_Pay__fits_move_isShort_fn1 : RS := .c (.int .i64)
def pk_slices_IndexFunc_Pay__fits_move_isShort_fn1 : Int → RL rs_slices_IndexFunc_Pay__fits_move_isShort_fn1.cells := fun x => (x, ())
def up_slices_IndexFunc_Pay__fits_move_isShort_fn1 : RL rs_slices_IndexFunc_Pay__fits_move_isShort_fn1.cells → Int := fun d => d.1
def R_slices_IndexFunc_Pay__fits_move_isShort_fn1 : Nat × Entry := (122, fun k nm args h => entry as_slices_IndexFunc_Pay__fits_move_isShort_fn1 rs_slices_IndexFunc_Pay__fits_move_isShort_fn1 (fun d => slices_IndexFunc_Pay__fits_move_isShort_fn1 k d.1 d.2.1 d.2.2.1 d.2.2.2.1 d.2.2.2.2.1 d.2.2.2.2.2.1 d.2.2.2.2.2.2.1 d.2.2.2.2.2.2.2.1 d.2.2.2.2.2.2.2.2.1 d.2.2.2.2.2.2.2.2.2.1 d.2.2.2.2.2.2.2.2.2.2.1 d.2.2.2.2.2.2.2.2.2.2.2.1 d.2.2.2.2.2.2.2.2.2.2.2.2.1) pk_slices_IndexFunc_Pay__fits_move_isShort_fn1 nm args h)
theorem slices_IndexFunc_Pay__fits_move_isShort_fn1_ev (k : Nat) (d : AD as_slices_IndexFunc_Pay__fits_move_isShort_fn1) : evF E_slices_IndexFunc_Pay__fits_move_isShort_fn1 A_slices_IndexFunc_Pay__fits_move_isShort_fn1 k 1000 0 Proofs.Try.f122 (absArgs as_slices_IndexFunc_Pay__fits_move_isShort_fn1 d).1 (absArgs as_slices_IndexFunc_Pay__fits_move_isShort_fn1 d).2 (outM rs_slices_IndexFunc_Pay__fits_move_isShort_fn1 up_slices_IndexFunc_Pay__fits_move_isShort_fn1) = slices_IndexFunc_Pay__fits_move_isShort_fn1 k d.1 d.2.1 d.2.2.1 d.2.2.2.1 d.2.2.2.2.1 d.2.2.2.2.2.1 d.2.2.2.2.2.2.1 d.2.2.2.2.2.2.2.1 d.2.2.2.2.2.2.2.2.1 d.2.2.2.2.2.2.2.2.2.1 d.2.2.2.2.2.2.2.2.2.2.1 d.2.2.2.2.2.2.2.2.2.2.2.1 d.2.2.2.2.2.2.2.2.2.2.2.2.1 := by
  obtain ⟨_, _, _, _, _, _, _, _, _, _, _, _, _, _⟩ := d
  kernel_rfl
theorem R_slices_IndexFunc_Pay__fits_move_isShort_fn1_ok : EntryOK Proofs.Try.prog R_slices_IndexFunc_Pay__fits_move_isShort_fn1 := fun k _ _ _ _ _ hy =>
  entry_sound (unpack := up_slices_IndexFunc_Pay__fits_move_isShort_fn1) (A := A_slices_IndexFunc_Pay__fits_move_isShort_fn1) (k := k) (pre := 1000) (na := 0) (E := E_slices_IndexFunc_Pay__fits_move_isShort_fn1) E_slices_IndexFunc_Pay__fits_move_isShort_fn1_ok E_slices_IndexFunc_Pay__fits_move_isShort_fn1_local mixed_orders (f := 122) (fn := Proofs.Try.f122) (by kernel_rfl) (body_loops (loopsOK_of (n := 1) (by kernel_rfl) fun i hi => match i, hi with | 0, _ => ⟨L_slices_IndexFunc_Pay__fits_move_isShort_fn1_L0, by kernel_rfl, slices_IndexFunc_Pay__fits_move_isShort_fn1_L0_ok⟩ | i + 1, hi => absurd hi (by omega))) (enters (fn := Proofs.Try.f122) (by kernel_rfl) (by kernel_rfl) (by kernel_rfl)) (fun _ => rfl) (slices_IndexFunc_Pay__fits_move_isShort_fn1_ev k) hy
theorem R_slices_IndexFunc_Pay__fits_move_isShort_fn1_local : EntryLocal R_slices_IndexFunc_Pay__fits_move_isShort_fn1.2 := entry_local (S := fun k (d : AD as_slices_IndexFunc_Pay__fits_move_isShort_fn1) => slices_IndexFunc_Pay__fits_move_isShort_fn1 k d.1 d.2.1 d.2.2.1 d.2.2.2.1 d.2.2.2.2.1 d.2.2.2.2.2.1 d.2.2.2.2.2.2.1 d.2.2.2.2.2.2.2.1 d.2.2.2.2.2.2.2.2.1 d.2.2.2.2.2.2.2.2.2.1 d.2.2.2.2.2.2.2.2.2.2.1 d.2.2.2.2.2.2.2.2.2.2.2.1 d.2.2.2.2.2.2.2.2.2.2.2.2.1)

/-! ### slices.ContainsFunc[[]giro/api.Pay,giro/api.Pay] -/
noncomputable def E_slices_ContainsFunc_Pay__fits_move_isShort_fn1 : Env := ⟨Proofs.Try.prog, fun _ => false, sumsOf [R_slices_IndexFunc_Pay__fits_move_isShort_fn1]⟩
def A_slices_ContainsFunc_Pay__fits_move_isShort_fn1 : Notes := ⟨[], []⟩
theorem E_slices_ContainsFunc_Pay__fits_move_isShort_fn1_ok : EnvOK E_slices_ContainsFunc_Pay__fits_move_isShort_fn1 := ⟨eqOK_none, sumsOf_ok (List.forall_mem_cons.2 ⟨R_slices_IndexFunc_Pay__fits_move_isShort_fn1_ok, List.forall_mem_nil _⟩)⟩
theorem E_slices_ContainsFunc_Pay__fits_move_isShort_fn1_local : SumsLocal E_slices_ContainsFunc_Pay__fits_move_isShort_fn1.sums := sumsOf_local (List.forall_mem_cons.2 ⟨R_slices_IndexFunc_Pay__fits_move_isShort_fn1_local, List.forall_mem_nil _⟩)
def as_slices_ContainsFunc_Pay__fits_move_isShort_fn1 : List AS := [.c (.dat false (.pair (.int .i64) (.pair (.int .i64) (.pair (.int .i64) (.pair (.int .i64) (.pair (.int .i64) (.pair (.int .i64) (.int .i64)))))))), .fn 135 [[.int .i64], [.int .i64, .int .i64, .int .i64], [.dat false (.int .i64), .dat false (.int .i64), .dat false (.sl (.int .i64))], [.int .i64], [.dat false (.pair (.int .i64) (.pair (.int .i64) (.int .i64))), .dat false (.sl (.int .i64)), .dat false (.int .i64), .dat false (.sl (.int .i64))]]]
def rs_slices_ContainsFunc_Pay__fits_move_isShort_fn1 : RS := .c (.bool)
def pk_slices_ContainsFunc_Pay__fits_move_isShort_fn1 : Bool → RL rs_slices_ContainsFunc_Pay__fits_move_isShort_fn1.cells := fun x => (x, ())
def up_slices_ContainsFunc_Pay__fits_move_isShort_fn1 : RL rs_slices_ContainsFunc_Pay__fits_move_isShort_fn1.cells → Bool := fun d => d.1
def R_slices_ContainsFunc_Pay__fits_move_isShort_fn1 : Nat × Entry := (116, fun k nm args h => entry as_slices_ContainsFunc_Pay__fits_move_isShort_fn1 rs_slices_ContainsFunc_Pay__fits_move_isShort_fn1 (fun d => slices_ContainsFunc_Pay__fits_move_isShort_fn1 k d.1 d.2.1 d.2.2.1 d.2.2.2.1 d.2.2.2.2.1 d.2.2.2.2.2.1 d.2.2.2.2.2.2.1 d.2.2.2.2.2.2.2.1 d.2.2.2.2.2.2.2.2.1 d.2.2.2.2.2.2.2.2.2.1 d.2.2.2.2.2.2.2.2.2.2.1 d.2.2.2.2.2.2.2.2.2.2.2.1 d.2.2.2.2.2.2.2.2.2.2.2.2.1) pk_slices_ContainsFunc_Pay__fits_move_isShort_fn1 nm args h)
theorem slices_ContainsFunc_Pay__fits_move_isShort_fn1_ev (k : Nat) (d : AD as_slices_ContainsFunc_Pay__fits_move_isShort_fn1) : evF E_slices_ContainsFunc_Pay__fits_move_isShort_fn1 A_slices_ContainsFunc_Pay__fits_move_isShort_fn1 k 1000 0 Proofs.Try.f116 (absArgs as_slices_ContainsFunc_Pay__fits_move_isShort_fn1 d).1 (absArgs as_slices_ContainsFunc_Pay__fits_move_isShort_fn1 d).2 (outM rs_slices_ContainsFunc_Pay__fits_move_isShort_fn1 up_slices_ContainsFunc_Pay__fits_move_isShort_fn1) = slices_ContainsFunc_Pay__fits_move_isShort_fn1 k d.1 d.2.1 d.2.2.1 d.2.2.2.1 d.2.2.2.2.1 d.2.2.2.2.2.1 d.2.2.2.2.2.2.1 d.2.2.2.2.2.2.2.1 d.2.2.2.2.2.2.2.2.1 d.2.2.2.2.2.2.2.2.2.1 d.2.2.2.2.2.2.2.2.2.2.1 d.2.2.2.2.2.2.2.2.2.2.2.1 d.2.2.2.2.2.2.2.2.2.2.2.2.1 := by
  obtain ⟨_, _, _, _, _, _, _, _, _, _, _, _, _, _⟩ := d
  kernel_rfl
theorem R_slices_ContainsFunc_Pay__fits_move_isShort_fn1_ok : EntryOK Proofs.Try.prog R_slices_ContainsFunc_Pay__fits_move_isShort_fn1 := fun k _ _ _ _ _ hy =>
  entry_sound (unpack := up_slices_ContainsFunc_Pay__fits_move_isShort_fn1) (A := A_slices_ContainsFunc_Pay__fits_move_isShort_fn1) (k := k) (pre := 1000) (na := 0) (E := E_slices_ContainsFunc_Pay__fits_move_isShort_fn1) E_slices_ContainsFunc_Pay__fits_move_isShort_fn1_ok E_slices_ContainsFunc_Pay__fits_move_isShort_fn1_local mixed_orders (f := 116) (fn := Proofs.Try.f116) (by kernel_rfl) (body_loops (loopsOK_none (by kernel_rfl))) (enters (fn := Proofs.Try.f116) (by kernel_rfl) (by kernel_rfl) (by kernel_rfl)) (fun _ => rfl) (slices_ContainsFunc_Pay__fits_move_isShort_fn1_ev k) hy
theorem R_slices_ContainsFunc_Pay__fits_move_isShort_fn1_local : EntryLocal R_slices_ContainsFunc_Pay__fits_move_isShort_fn1.2 := entry_local (S := fun k (d : AD as_slices_ContainsFunc_Pay__fits_move_isShort_fn1) => slices_ContainsFunc_Pay__fits_move_isShort_fn1 k d.1 d.2.1 d.2.2.1 d.2.2.2.1 d.2.2.2.2.1 d.2.2.2.2.2.1 d.2.2.2.2.2.2.1 d.2.2.2.2.2.2.2.1 d.2.2.2.2.2.2.2.2.1 d.2.2.2.2.2.2.2.2.2.1 d.2.2.2.2.2.2.2.2.2.2.1 d.2.2.2.2.2.2.2.2.2.2.2.1 d.2.2.2.2.2.2.2.2.2.2.2.2.1)

/-! ### (giro/fits.move).isShort -/
noncomputable def E_fits_move_isShort : Env := ⟨Proofs.Try.prog, fun _ => false, sumsOf [R_lim_Net, R_fits_over, R_slices_ContainsFunc_Pay__fits_move_isShort_fn1]⟩
def I_fits_move_isShort_L0 : Spec := ⟨[(3, .c (.dat false (.pair (.int .i64) (.pair (.int .i64) (.pair (.int .i64) (.pair (.int .i64) (.pair (.int .i64) (.pair (.int .i64) (.int .i64))))))))), (4, .c (.lit (.ptr 1001000 0))), (5, .c (.lit (.ptr 1001001 0))), (6, .c (.lit (.ptr 1001002 0))), (9, .c (.lit (.ptr 1001003 0))), (10, .c (.lit (.ptr 1001004 0))), (11, .c (.int .i64)), (39, .c (.dat false (.int .i64))), (40, .c (.int .i64)), (41, .c (.int .i64))], [.box true [.dat false (.int .i64), .dat false (.int .i64), .dat false (.sl (.int .i64))], .box true [.dat false (.pair (.int .i64) (.pair (.int .i64) (.int .i64))), .dat false (.sl (.int .i64)), .dat false (.int .i64), .dat false (.sl (.int .i64))], .box true [.int .i64], .box true [.int .i64, .int .i64, .int .i64], .box true [.int .i64]], []⟩
def O_fits_move_isShort_L0 : List (Ex × Spec) := [(.exit 0, ⟨[(3, .c (.dat false (.pair (.int .i64) (.pair (.int .i64) (.pair (.int .i64) (.pair (.int .i64) (.pair (.int .i64) (.pair (.int .i64) (.int .i64))))))))), (4, .c (.lit (.ptr 1001000 0))), (5, .c (.lit (.ptr 1001001 0))), (6, .c (.lit (.ptr 1001002 0))), (9, .c (.lit (.ptr 1001003 0))), (10, .c (.lit (.ptr 1001004 0))), (11, .c (.int .i64))], [.box true [.dat false (.int .i64), .dat false (.int .i64), .dat false (.sl (.int .i64))], .box true [.dat false (.pair (.int .i64) (.pair (.int .i64) (.int .i64))), .dat false (.sl (.int .i64)), .dat false (.int .i64), .dat false (.sl (.int .i64))], .box true [.int .i64], .box true [.int .i64, .int .i64, .int .i64], .box true [.int .i64]], []⟩)]
def T_fits_move_isShort_L0 : OutD O_fits_move_isShort_L0 → (List (Int × Int × Int × Int × Int × Int × Int)) × Int × (List Int) × (List Int) × (List (List Int)) × (List (Int × Int × Int)) × (List (List Int)) × (List Int) × (List (List Int)) × Int × Int × Int × Int × Int := fun d => (d.1.1.1, d.1.2.2.2.2.2.2.1.1, d.2.1.1, d.2.1.2.1, d.2.1.2.2.1, d.2.2.1.1, d.2.2.1.2.1, d.2.2.1.2.2.1, d.2.2.1.2.2.2.1, d.2.2.2.1.1, d.2.2.2.2.1.1, d.2.2.2.2.1.2.1, d.2.2.2.2.1.2.2.1, d.2.2.2.2.2.1.1)
def e_fits_move_isShort_L0 (base : Nat) (x : (List (Int × Int × Int × Int × Int × Int × Int)) × Int × (List Int) × (List Int) × (List (List Int)) × (List (Int × Int × Int)) × (List (List Int)) × (List Int) × (List (List Int)) × Int × Int × Int × Int × Int) (R : Type) (K : Ex → St → Option R) : Option R := K (.exit 0) (stOf base ⟨[(3, .c (.dat false (.pair (.int .i64) (.pair (.int .i64) (.pair (.int .i64) (.pair (.int .i64) (.pair (.int .i64) (.pair (.int .i64) (.int .i64))))))))), (4, .c (.lit (.ptr 1001000 0))), (5, .c (.lit (.ptr 1001001 0))), (6, .c (.lit (.ptr 1001002 0))), (9, .c (.lit (.ptr 1001003 0))), (10, .c (.lit (.ptr 1001004 0))), (11, .c (.int .i64))], [.box true [.dat false (.int .i64), .dat false (.int .i64), .dat false (.sl (.int .i64))], .box true [.dat false (.pair (.int .i64) (.pair (.int .i64) (.int .i64))), .dat false (.sl (.int .i64)), .dat false (.int .i64), .dat false (.sl (.int .i64))], .box true [.int .i64], .box true [.int .i64, .int .i64, .int .i64], .box true [.int .i64]], []⟩ (((x.1, ()), (), (), (), (), (), (x.2.1, ()), ()), ((x.2.2.1, x.2.2.2.1, x.2.2.2.2.1, ()), (x.2.2.2.2.2.1, x.2.2.2.2.2.2.1, x.2.2.2.2.2.2.2.1, x.2.2.2.2.2.2.2.2.1, ()), (x.2.2.2.2.2.2.2.2.2.1, ()), (x.2.2.2.2.2.2.2.2.2.2.1, x.2.2.2.2.2.2.2.2.2.2.2.1, x.2.2.2.2.2.2.2.2.2.2.2.2.1, ()), (x.2.2.2.2.2.2.2.2.2.2.2.2.2, ()), ())))
def L_fits_move_isShort_L0 : LoopSum := ⟨I_fits_move_isShort_L0, O_fits_move_isShort_L0, (List (Int × Int × Int × Int × Int × Int × Int)) × Int × (List Int) × (List Int) × (List (List Int)) × (List (Int × Int × Int)) × (List (List Int)) × (List Int) × (List (List Int)) × Int × Int × Int × Int × Int, fun k d => fits_move_isShort_L0 k k d.1.1.1 d.1.2.2.2.2.2.2.1.1 d.1.2.2.2.2.2.2.2.1.1 d.1.2.2.2.2.2.2.2.2.1.1 d.1.2.2.2.2.2.2.2.2.2.1.1 d.2.1.1 d.2.1.2.1 d.2.1.2.2.1 d.2.2.1.1 d.2.2.1.2.1 d.2.2.1.2.2.1 d.2.2.1.2.2.2.1 d.2.2.2.1.1 d.2.2.2.2.1.1 d.2.2.2.2.1.2.1 d.2.2.2.2.1.2.2.1 d.2.2.2.2.2.1.1, e_fits_move_isShort_L0⟩
def A_fits_move_isShort : Notes := ⟨[], [(7, L_fits_move_isShort_L0)]⟩
theorem E_fits_move_isShort_ok : EnvOK E_fits_move_isShort := ⟨eqOK_none, sumsOf_ok (List.forall_mem_cons.2 ⟨R_lim_Net_ok, List.forall_mem_cons.2 ⟨R_fits_over_ok, List.forall_mem_cons.2 ⟨R_slices_ContainsFunc_Pay__fits_move_isShort_fn1_ok, List.forall_mem_nil _⟩⟩⟩)⟩
theorem E_fits_move_isShort_local : SumsLocal E_fits_move_isShort.sums := sumsOf_local (List.forall_mem_cons.2 ⟨R_lim_Net_local, List.forall_mem_cons.2 ⟨R_fits_over_local, List.forall_mem_cons.2 ⟨R_slices_ContainsFunc_Pay__fits_move_isShort_fn1_local, List.forall_mem_nil _⟩⟩⟩)
theorem fits_move_isShort_L0_step (k : Nat) (rec : List (Int × Int × Int × Int × Int × Int × Int) → Int → List Int → Int → Int → List Int → List Int → List (List Int) → List (Int × Int × Int) → List (List Int) → List Int → List (List Int) → Int → Int → Int → Int → Int → Option ((List (Int × Int × Int × Int × Int × Int × Int)) × Int × (List Int) × (List Int) × (List (List Int)) × (List (Int × Int × Int)) × (List (List Int)) × (List Int) × (List (List Int)) × Int × Int × Int × Int × Int)) (d : I_fits_move_isShort_L0.den) : fits_move_isShort_L0b k rec d.1.1.1 d.1.2.2.2.2.2.2.1.1 d.1.2.2.2.2.2.2.2.1.1 d.1.2.2.2.2.2.2.2.2.1.1 d.1.2.2.2.2.2.2.2.2.2.1.1 d.2.1.1 d.2.1.2.1 d.2.1.2.2.1 d.2.2.1.1 d.2.2.1.2.1 d.2.2.1.2.2.1 d.2.2.1.2.2.2.1 d.2.2.2.1.1 d.2.2.2.2.1.1 d.2.2.2.2.1.2.1 d.2.2.2.2.1.2.2.1 d.2.2.2.2.2.1.1 = evC E_fits_move_isShort A_fits_move_isShort k 1000 0 59 (loopAt (bodyOf Proofs.Try.f132) 0) (stOf (1000 + loopBase) I_fits_move_isShort_L0 d) (roundK 1000 I_fits_move_isShort_L0 O_fits_move_isShort_L0 T_fits_move_isShort_L0 fun d => rec d.1.1.1 d.1.2.2.2.2.2.2.1.1 d.1.2.2.2.2.2.2.2.1.1 d.1.2.2.2.2.2.2.2.2.1.1 d.1.2.2.2.2.2.2.2.2.2.1.1 d.2.1.1 d.2.1.2.1 d.2.1.2.2.1 d.2.2.1.1 d.2.2.1.2.1 d.2.2.1.2.2.1 d.2.2.1.2.2.2.1 d.2.2.2.1.1 d.2.2.2.2.1.1 d.2.2.2.2.1.2.1 d.2.2.2.2.1.2.2.1 d.2.2.2.2.2.1.1) := by
  obtain ⟨⟨⟨_, _⟩, _, _, _, _, _, ⟨_, _⟩, ⟨_, _⟩, ⟨_, _⟩, ⟨_, _⟩, _⟩, ⟨⟨_, _, _, _⟩, ⟨_, _, _, _, _⟩, ⟨_, _⟩, ⟨_, _, _, _⟩, ⟨_, _⟩, _⟩⟩ := d
  kernel_rfl
theorem fits_move_isShort_L0_ok : LoopOK Proofs.Try.prog 1000 0 59 (loopAt (bodyOf Proofs.Try.f132) 0) L_fits_move_isShort_L0 :=
  loop_sound (A := A_fits_move_isShort) (inS := I_fits_move_isShort_L0) (outs := O_fits_move_isShort_L0) E_fits_move_isShort_ok E_fits_move_isShort_local mixed_orders (loopsOK_none (by kernel_rfl)) T_fits_move_isShort_L0 e_fits_move_isShort_L0 (fun _ _ _ => rfl) (fun k n d => fits_move_isShort_L0 k n d.1.1.1 d.1.2.2.2.2.2.2.1.1 d.1.2.2.2.2.2.2.2.1.1 d.1.2.2.2.2.2.2.2.2.1.1 d.1.2.2.2.2.2.2.2.2.2.1.1 d.2.1.1 d.2.1.2.1 d.2.1.2.2.1 d.2.2.1.1 d.2.2.1.2.1 d.2.2.1.2.2.1 d.2.2.1.2.2.2.1 d.2.2.2.1.1 d.2.2.2.2.1.1 d.2.2.2.2.1.2.1 d.2.2.2.2.1.2.2.1 d.2.2.2.2.2.1.1) (fun _ _ => rfl) (fun k n d => fits_move_isShort_L0_step k (fits_move_isShort_L0 k n) d)
def as_fits_move_isShort : List AS := [.agg [.dat false (.int .i64), .dat false (.int .i64), .dat false (.sl (.int .i64))], .agg [.dat false (.pair (.int .i64) (.pair (.int .i64) (.int .i64))), .dat false (.sl (.int .i64)), .dat false (.int .i64), .dat false (.sl (.int .i64))], .c (.int .i64), .c (.dat false (.pair (.int .i64) (.pair (.int .i64) (.pair (.int .i64) (.pair (.int .i64) (.pair (.int .i64) (.pair (.int .i64) (.int .i64))))))))]
def rs_fits_move_isShort : RS := .c (.bool)
def pk_fits_move_isShort : Bool → RL rs_fits_move_isShort.cells := fun x => (x, ())
def up_fits_move_isShort : RL rs_fits_move_isShort.cells → Bool := fun d => d.1
def R_fits_move_isShort : Nat × Entry := (132, fun k nm args h => entry as_fits_move_isShort rs_fits_move_isShort (fun d => fits_move_isShort k d.1 d.2.1 d.2.2.1 d.2.2.2.1 d.2.2.2.2.1 d.2.2.2.2.2.1 d.2.2.2.2.2.2.1 d.2.2.2.2.2.2.2.1 d.2.2.2.2.2.2.2.2.1) pk_fits_move_isShort nm args h)
theorem fits_move_isShort_ev (k : Nat) (d : AD as_fits_move_isShort) : evF E_fits_move_isShort A_fits_move_isShort k 1000 0 Proofs.Try.f132 (absArgs as_fits_move_isShort d).1 (absArgs as_fits_move_isShort d).2 (outM rs_fits_move_isShort up_fits_move_isShort) = fits_move_isShort k d.1 d.2.1 d.2.2.1 d.2.2.2.1 d.2.2.2.2.1 d.2.2.2.2.2.1 d.2.2.2.2.2.2.1 d.2.2.2.2.2.2.2.1 d.2.2.2.2.2.2.2.2.1 := by
  obtain ⟨_, _, _, _, _, _, _, _, _, _⟩ := d
  kernel_rfl
theorem R_fits_move_isShort_ok : EntryOK Proofs.Try.prog R_fits_move_isShort := fun k _ _ _ _ _ hy =>
  entry_sound (unpack := up_fits_move_isShort) (A := A_fits_move_isShort) (k := k) (pre := 1000) (na := 0) (E := E_fits_move_isShort) E_fits_move_isShort_ok E_fits_move_isShort_local mixed_orders (f := 132) (fn := Proofs.Try.f132) (by kernel_rfl) (body_loops (loopsOK_of (n := 1) (by kernel_rfl) fun i hi => match i, hi with | 0, _ => ⟨L_fits_move_isShort_L0, by kernel_rfl, fits_move_isShort_L0_ok⟩ | i + 1, hi => absurd hi (by omega))) (enters (fn := Proofs.Try.f132) (by kernel_rfl) (by kernel_rfl) (by kernel_rfl)) (fun _ => rfl) (fits_move_isShort_ev k) hy
theorem R_fits_move_isShort_local : EntryLocal R_fits_move_isShort.2 := entry_local (S := fun k (d : AD as_fits_move_isShort) => fits_move_isShort k d.1 d.2.1 d.2.2.1 d.2.2.2.1 d.2.2.2.2.1 d.2.2.2.2.2.1 d.2.2.2.2.2.2.1 d.2.2.2.2.2.2.2.1 d.2.2.2.2.2.2.2.2.1)

/-! ### giro/fits.Short -/
noncomputable def E_fits_Short : Env := ⟨Proofs.Try.prog, fun _ => false, sumsOf [R_fits_moved, R_slices_ContainsFunc_Pay__fits_Short_fn1, R_fits_move_isShort]⟩
def I_fits_Short_L0 : Spec := ⟨[(1, .c (.dat false (.pair (.int .i64) (.pair (.int .i64) (.pair (.int .i64) (.pair (.int .i64) (.pair (.int .i64) (.pair (.int .i64) (.int .i64))))))))), (2, .c (.lit (.ptr 1001000 0))), (5, .c (.lit (.ptr 1001001 0))), (6, .c (.lit (.osl 1001005 none))), (16, .c (.int .i64)), (17, .c (.int .i64))], [.box true [.dat false (.pair (.int .i64) (.pair (.int .i64) (.int .i64))), .dat false (.sl (.int .i64)), .dat false (.int .i64), .dat false (.sl (.int .i64))], .box true [.lit (.osl 1001002 none), .lit (.osl 1001003 none), .lit (.osl 1001004 none)], .arr true (.int .i64), .arr true (.int .i64), .mat, .arr true (.int .i64)], [(6, none, (.int .i64), false)]⟩
def O_fits_Short_L0 : List (Ex × Spec) := [(.exit 0, ⟨[(6, .c (.lit (.osl 1001000 none)))], [.arr true (.int .i64)], []⟩)]
def T_fits_Short_L0 : OutD O_fits_Short_L0 → List Int := fun d => d.2.1
def e_fits_Short_L0 (base : Nat) (x : List Int) (R : Type) (K : Ex → St → Option R) : Option R := K (.exit 0) (stOf base ⟨[(6, .c (.lit (.osl 1001000 none)))], [.arr true (.int .i64)], []⟩ (((), ()), (x, ())))
def L_fits_Short_L0 : LoopSum := ⟨I_fits_Short_L0, O_fits_Short_L0, List Int, fun k d => fits_Short_L0 k k d.1.1.1 d.1.2.2.2.2.1.1 d.1.2.2.2.2.2.1.1 d.2.1.1 d.2.1.2.1 d.2.1.2.2.1 d.2.1.2.2.2.1 d.2.2.2.1 d.2.2.2.2.1 d.2.2.2.2.2.1 d.2.2.2.2.2.2.1, e_fits_Short_L0⟩
def A_fits_Short : Notes := ⟨[], [(4, L_fits_Short_L0)]⟩
theorem E_fits_Short_ok : EnvOK E_fits_Short := ⟨eqOK_none, sumsOf_ok (List.forall_mem_cons.2 ⟨R_fits_moved_ok, List.forall_mem_cons.2 ⟨R_slices_ContainsFunc_Pay__fits_Short_fn1_ok, List.forall_mem_cons.2 ⟨R_fits_move_isShort_ok, List.forall_mem_nil _⟩⟩⟩)⟩
theorem E_fits_Short_local : SumsLocal E_fits_Short.sums := sumsOf_local (List.forall_mem_cons.2 ⟨R_fits_moved_local, List.forall_mem_cons.2 ⟨R_slices_ContainsFunc_Pay__fits_Short_fn1_local, List.forall_mem_cons.2 ⟨R_fits_move_isShort_local, List.forall_mem_nil _⟩⟩⟩)
theorem fits_Short_L0_step (k : Nat) (rec : List (Int × Int × Int × Int × Int × Int × Int) → Int → Int → List (Int × Int × Int) → List (List Int) → List Int → List (List Int) → List Int → List Int → List (List Int) → List Int → Option (List Int)) (d : I_fits_Short_L0.den) : fits_Short_L0b k rec d.1.1.1 d.1.2.2.2.2.1.1 d.1.2.2.2.2.2.1.1 d.2.1.1 d.2.1.2.1 d.2.1.2.2.1 d.2.1.2.2.2.1 d.2.2.2.1 d.2.2.2.2.1 d.2.2.2.2.2.1 d.2.2.2.2.2.2.1 = evC E_fits_Short A_fits_Short k 1000 0 37 (loopAt (bodyOf Proofs.Try.f119) 0) (stOf (1000 + loopBase) I_fits_Short_L0 d) (roundK 1000 I_fits_Short_L0 O_fits_Short_L0 T_fits_Short_L0 fun d => rec d.1.1.1 d.1.2.2.2.2.1.1 d.1.2.2.2.2.2.1.1 d.2.1.1 d.2.1.2.1 d.2.1.2.2.1 d.2.1.2.2.2.1 d.2.2.2.1 d.2.2.2.2.1 d.2.2.2.2.2.1 d.2.2.2.2.2.2.1) := by
  obtain ⟨⟨⟨_, _⟩, _, _, _, ⟨_, _⟩, ⟨_, _⟩, _⟩, ⟨⟨_, _, _, _, _⟩, _, _, _, _, _, _⟩⟩ := d
  kernel_rfl
theorem fits_Short_L0_ok : LoopOK Proofs.Try.prog 1000 0 37 (loopAt (bodyOf Proofs.Try.f119) 0) L_fits_Short_L0 :=
  loop_sound (A := A_fits_Short) (inS := I_fits_Short_L0) (outs := O_fits_Short_L0) E_fits_Short_ok E_fits_Short_local mixed_orders (loopsOK_none (by kernel_rfl)) T_fits_Short_L0 e_fits_Short_L0 (fun _ _ _ => rfl) (fun k n d => fits_Short_L0 k n d.1.1.1 d.1.2.2.2.2.1.1 d.1.2.2.2.2.2.1.1 d.2.1.1 d.2.1.2.1 d.2.1.2.2.1 d.2.1.2.2.2.1 d.2.2.2.1 d.2.2.2.2.1 d.2.2.2.2.2.1 d.2.2.2.2.2.2.1) (fun _ _ => rfl) (fun k n d => fits_Short_L0_step k (fits_Short_L0 k n) d)
def as_fits_Short : List AS := [.agg [.dat false (.pair (.int .i64) (.pair (.int .i64) (.int .i64))), .dat false (.sl (.int .i64)), .dat false (.int .i64), .dat false (.sl (.int .i64))], .c (.dat false (.pair (.int .i64) (.pair (.int .i64) (.pair (.int .i64) (.pair (.int .i64) (.pair (.int .i64) (.pair (.int .i64) (.int .i64))))))))]
def rs_fits_Short : RS := .c (.own (.int .i64))
def pk_fits_Short : List Int → RL rs_fits_Short.cells := fun x => (x, ())
def up_fits_Short : RL rs_fits_Short.cells → List Int := fun d => d.1
def R_fits_Short : Nat × Entry := (119, fun k nm args h => entry as_fits_Short rs_fits_Short (fun d => fits_Short k d.1 d.2.1 d.2.2.1 d.2.2.2.1 d.2.2.2.2.1) pk_fits_Short nm args h)
theorem fits_Short_ev (k : Nat) (d : AD as_fits_Short) : evF E_fits_Short A_fits_Short k 1000 0 Proofs.Try.f119 (absArgs as_fits_Short d).1 (absArgs as_fits_Short d).2 (outM rs_fits_Short up_fits_Short) = fits_Short k d.1 d.2.1 d.2.2.1 d.2.2.2.1 d.2.2.2.2.1 := by
  obtain ⟨_, _, _, _, _, _⟩ := d
  kernel_rfl
theorem R_fits_Short_ok : EntryOK Proofs.Try.prog R_fits_Short := fun k _ _ _ _ _ hy =>
  entry_sound (unpack := up_fits_Short) (A := A_fits_Short) (k := k) (pre := 1000) (na := 0) (E := E_fits_Short) E_fits_Short_ok E_fits_Short_local mixed_orders (f := 119) (fn := Proofs.Try.f119) (by kernel_rfl) (body_loops (loopsOK_of (n := 1) (by kernel_rfl) fun i hi => match i, hi with | 0, _ => ⟨L_fits_Short_L0, by kernel_rfl, fits_Short_L0_ok⟩ | i + 1, hi => absurd hi (by omega))) (enters (fn := Proofs.Try.f119) (by kernel_rfl) (by kernel_rfl) (by kernel_rfl)) (fun _ => rfl) (fits_Short_ev k) hy
theorem R_fits_Short_local : EntryLocal R_fits_Short.2 := entry_local (S := fun k (d : AD as_fits_Short) => fits_Short k d.1 d.2.1 d.2.2.1 d.2.2.2.1 d.2.2.2.2.1)

/-! ### giro/fits.Fits -/
noncomputable def E_fits_Fits : Env := ⟨Proofs.Try.prog, fun _ => false, sumsOf [R_slices_ContainsFunc_Pay__fits_Fits_fn1, R_fits_Short]⟩
def A_fits_Fits : Notes := ⟨[], []⟩
theorem E_fits_Fits_ok : EnvOK E_fits_Fits := ⟨eqOK_none, sumsOf_ok (List.forall_mem_cons.2 ⟨R_slices_ContainsFunc_Pay__fits_Fits_fn1_ok, List.forall_mem_cons.2 ⟨R_fits_Short_ok, List.forall_mem_nil _⟩⟩)⟩
theorem E_fits_Fits_local : SumsLocal E_fits_Fits.sums := sumsOf_local (List.forall_mem_cons.2 ⟨R_slices_ContainsFunc_Pay__fits_Fits_fn1_local, List.forall_mem_cons.2 ⟨R_fits_Short_local, List.forall_mem_nil _⟩⟩)
def as_fits_Fits : List AS := [.agg [.dat false (.pair (.int .i64) (.pair (.int .i64) (.int .i64))), .dat false (.sl (.int .i64)), .dat false (.int .i64), .dat false (.sl (.int .i64))], .c (.dat false (.pair (.int .i64) (.pair (.int .i64) (.pair (.int .i64) (.pair (.int .i64) (.pair (.int .i64) (.pair (.int .i64) (.int .i64))))))))]
def rs_fits_Fits : RS := .c (.bool)
def pk_fits_Fits : Bool → RL rs_fits_Fits.cells := fun x => (x, ())
def up_fits_Fits : RL rs_fits_Fits.cells → Bool := fun d => d.1
def R_fits_Fits : Nat × Entry := (96, fun k nm args h => entry as_fits_Fits rs_fits_Fits (fun d => fits_Fits k d.1 d.2.1 d.2.2.1 d.2.2.2.1 d.2.2.2.2.1) pk_fits_Fits nm args h)
theorem fits_Fits_ev (k : Nat) (d : AD as_fits_Fits) : evF E_fits_Fits A_fits_Fits k 1000 0 Proofs.Try.f96 (absArgs as_fits_Fits d).1 (absArgs as_fits_Fits d).2 (outM rs_fits_Fits up_fits_Fits) = fits_Fits k d.1 d.2.1 d.2.2.1 d.2.2.2.1 d.2.2.2.2.1 := by
  obtain ⟨_, _, _, _, _, _⟩ := d
  kernel_rfl
theorem R_fits_Fits_ok : EntryOK Proofs.Try.prog R_fits_Fits := fun k _ _ _ _ _ hy =>
  entry_sound (unpack := up_fits_Fits) (A := A_fits_Fits) (k := k) (pre := 1000) (na := 0) (E := E_fits_Fits) E_fits_Fits_ok E_fits_Fits_local mixed_orders (f := 96) (fn := Proofs.Try.f96) (by kernel_rfl) (body_loops (loopsOK_none (by kernel_rfl))) (enters (fn := Proofs.Try.f96) (by kernel_rfl) (by kernel_rfl) (by kernel_rfl)) (fun _ => rfl) (fits_Fits_ev k) hy
theorem R_fits_Fits_local : EntryLocal R_fits_Fits.2 := entry_local (S := fun k (d : AD as_fits_Fits) => fits_Fits k d.1 d.2.1 d.2.2.1 d.2.2.2.1 d.2.2.2.2.1)

/-! ### giro/post.Post$1 -/
noncomputable def E_post_Post_fn1 : Env := ⟨Proofs.Try.prog, fun _ => false, sumsOf [R_fits_May]⟩
def A_post_Post_fn1 : Notes := ⟨[], []⟩
theorem E_post_Post_fn1_ok : EnvOK E_post_Post_fn1 := ⟨eqOK_none, sumsOf_ok (List.forall_mem_cons.2 ⟨R_fits_May_ok, List.forall_mem_nil _⟩)⟩
theorem E_post_Post_fn1_local : SumsLocal E_post_Post_fn1.sums := sumsOf_local (List.forall_mem_cons.2 ⟨R_fits_May_local, List.forall_mem_nil _⟩)
def as_post_Post_fn1 : List AS := [.agg [.int .i64, .int .i64, .int .i64, .int .i64, .int .i64, .int .i64, .int .i64], .ptr [.dat false (.pair (.int .i64) (.pair (.int .i64) (.int .i64))), .dat false (.sl (.int .i64)), .dat false (.int .i64), .dat false (.sl (.int .i64))]]
def rs_post_Post_fn1 : RS := .c (.bool)
def pk_post_Post_fn1 : Bool → RL rs_post_Post_fn1.cells := fun x => (x, ())
def up_post_Post_fn1 : RL rs_post_Post_fn1.cells → Bool := fun d => d.1
def R_post_Post_fn1 : Nat × Entry := (120, fun k nm args h => entry as_post_Post_fn1 rs_post_Post_fn1 (fun d => post_Post_fn1 k d.1 d.2.1 d.2.2.1 d.2.2.2.1 d.2.2.2.2.1 d.2.2.2.2.2.1 d.2.2.2.2.2.2.1 d.2.2.2.2.2.2.2.1 d.2.2.2.2.2.2.2.2.1 d.2.2.2.2.2.2.2.2.2.1 d.2.2.2.2.2.2.2.2.2.2.1) pk_post_Post_fn1 nm args h)
theorem post_Post_fn1_ev (k : Nat) (d : AD as_post_Post_fn1) : evF E_post_Post_fn1 A_post_Post_fn1 k 1000 0 Proofs.Try.f120 (absArgs as_post_Post_fn1 d).1 (absArgs as_post_Post_fn1 d).2 (outM rs_post_Post_fn1 up_post_Post_fn1) = post_Post_fn1 k d.1 d.2.1 d.2.2.1 d.2.2.2.1 d.2.2.2.2.1 d.2.2.2.2.2.1 d.2.2.2.2.2.2.1 d.2.2.2.2.2.2.2.1 d.2.2.2.2.2.2.2.2.1 d.2.2.2.2.2.2.2.2.2.1 d.2.2.2.2.2.2.2.2.2.2.1 := by
  obtain ⟨_, _, _, _, _, _, _, _, _, _, _, _⟩ := d
  kernel_rfl
theorem R_post_Post_fn1_ok : EntryOK Proofs.Try.prog R_post_Post_fn1 := fun k _ _ _ _ _ hy =>
  entry_sound (unpack := up_post_Post_fn1) (A := A_post_Post_fn1) (k := k) (pre := 1000) (na := 0) (E := E_post_Post_fn1) E_post_Post_fn1_ok E_post_Post_fn1_local mixed_orders (f := 120) (fn := Proofs.Try.f120) (by kernel_rfl) (body_loops (loopsOK_none (by kernel_rfl))) (enters (fn := Proofs.Try.f120) (by kernel_rfl) (by kernel_rfl) (by kernel_rfl)) (fun _ => rfl) (post_Post_fn1_ev k) hy
theorem R_post_Post_fn1_local : EntryLocal R_post_Post_fn1.2 := entry_local (S := fun k (d : AD as_post_Post_fn1) => post_Post_fn1 k d.1 d.2.1 d.2.2.1 d.2.2.2.1 d.2.2.2.2.1 d.2.2.2.2.2.1 d.2.2.2.2.2.2.1 d.2.2.2.2.2.2.2.1 d.2.2.2.2.2.2.2.2.1 d.2.2.2.2.2.2.2.2.2.1 d.2.2.2.2.2.2.2.2.2.2.1)

/-! ### slices.IndexFunc[[]giro/api.Pay,giro/api.Pay] -/
noncomputable def E_slices_IndexFunc_Pay__post_Post_fn1 : Env := ⟨Proofs.Try.prog, fun _ => false, sumsOf [R_post_Post_fn1]⟩
def I_slices_IndexFunc_Pay__post_Post_fn1_L0 : Spec := ⟨[(0, .c (.dat false (.pair (.int .i64) (.pair (.int .i64) (.pair (.int .i64) (.pair (.int .i64) (.pair (.int .i64) (.pair (.int .i64) (.int .i64))))))))), (1, .c (.lit (.fn 120 [1001000]))), (7, .c (.int .i64)), (8, .c (.int .i64))], [.robox [.dat false (.pair (.int .i64) (.pair (.int .i64) (.int .i64))), .dat false (.sl (.int .i64)), .dat false (.int .i64), .dat false (.sl (.int .i64))]], []⟩
def O_slices_IndexFunc_Pay__post_Post_fn1_L0 : List (Ex × Spec) := [(.exit 0, ⟨[], [], []⟩), (.ret, ⟨[(4, .c (.int .i64))], [], []⟩)]
def T_slices_IndexFunc_Pay__post_Post_fn1_L0 : OutD O_slices_IndexFunc_Pay__post_Post_fn1_L0 → Unit ⊕ Int
 | .inl d => .inl ()
 | .inr d => .inr d.1.1.1
def e_slices_IndexFunc_Pay__post_Post_fn1_L0 (base : Nat) (x : Unit ⊕ Int) (R : Type) (K : Ex → St → Option R) : Option R := match x with
 | .inl x => K (.exit 0) (stOf base ⟨[], [], []⟩ ((), ()))
 | .inr x => K .ret (stOf base ⟨[(4, .c (.int .i64))], [], []⟩ (((x, ()), ()), ()))
def L_slices_IndexFunc_Pay__post_Post_fn1_L0 : LoopSum := ⟨I_slices_IndexFunc_Pay__post_Post_fn1_L0, O_slices_IndexFunc_Pay__post_Post_fn1_L0, Unit ⊕ Int, fun k d => slices_IndexFunc_Pay__post_Post_fn1_L0 k k d.1.1.1 d.1.2.2.1.1 d.1.2.2.2.1.1 d.2.1.1 d.2.1.2.1 d.2.1.2.2.1 d.2.1.2.2.2.1, e_slices_IndexFunc_Pay__post_Post_fn1_L0⟩
def A_slices_IndexFunc_Pay__post_Post_fn1 : Notes := ⟨[], [(2, L_slices_IndexFunc_Pay__post_Post_fn1_L0)]⟩
theorem E_slices_IndexFunc_Pay__post_Post_fn1_ok : EnvOK E_slices_IndexFunc_Pay__post_Post_fn1 := ⟨eqOK_none, sumsOf_ok (List.forall_mem_cons.2 ⟨R_post_Post_fn1_ok, List.forall_mem_nil _⟩)⟩
theorem E_slices_IndexFunc_Pay__post_Post_fn1_local : SumsLocal E_slices_IndexFunc_Pay__post_Post_fn1.sums := sumsOf_local (List.forall_mem_cons.2 ⟨R_post_Post_fn1_local, List.forall_mem_nil _⟩)
theorem slices_IndexFunc_Pay__post_Post_fn1_L0_step (k : Nat) (rec : List (Int × Int × Int × Int × Int × Int × Int) → Int → Int → List (Int × Int × Int) → List (List Int) → List Int → List (List Int) → Option (Unit ⊕ Int)) (d : I_slices_IndexFunc_Pay__post_Post_fn1_L0.den) : slices_IndexFunc_Pay__post_Post_fn1_L0b k rec d.1.1.1 d.1.2.2.1.1 d.1.2.2.2.1.1 d.2.1.1 d.2.1.2.1 d.2.1.2.2.1 d.2.1.2.2.2.1 = evC E_slices_IndexFunc_Pay__post_Post_fn1 A_slices_IndexFunc_Pay__post_Post_fn1 k 1000 0 19 (loopAt (bodyOf Proofs.Try.f122) 0) (stOf (1000 + loopBase) I_slices_IndexFunc_Pay__post_Post_fn1_L0 d) (roundK 1000 I_slices_IndexFunc_Pay__post_Post_fn1_L0 O_slices_IndexFunc_Pay__post_Post_fn1_L0 T_slices_IndexFunc_Pay__post_Post_fn1_L0 fun d => rec d.1.1.1 d.1.2.2.1.1 d.1.2.2.2.1.1 d.2.1.1 d.2.1.2.1 d.2.1.2.2.1 d.2.1.2.2.2.1) := by
  obtain ⟨⟨⟨_, _⟩, _, ⟨_, _⟩, ⟨_, _⟩, _⟩, ⟨⟨_, _, _, _, _⟩, _⟩⟩ := d
  kernel_rfl
theorem slices_IndexFunc_Pay__post_Post_fn1_L0_ok : LoopOK Proofs.Try.prog 1000 0 19 (loopAt (bodyOf Proofs.Try.f122) 0) L_slices_IndexFunc_Pay__post_Post_fn1_L0 :=
  loop_sound (A := A_slices_IndexFunc_Pay__post_Post_fn1) (inS := I_slices_IndexFunc_Pay__post_Post_fn1_L0) (outs := O_slices_IndexFunc_Pay__post_Post_fn1_L0) E_slices_IndexFunc_Pay__post_Post_fn1_ok E_slices_IndexFunc_Pay__post_Post_fn1_local mixed_orders (loopsOK_none (by kernel_rfl)) T_slices_IndexFunc_Pay__post_Post_fn1_L0 e_slices_IndexFunc_Pay__post_Post_fn1_L0 (by intro o R K; rcases o with o | o <;> rfl) (fun k n d => slices_IndexFunc_Pay__post_Post_fn1_L0 k n d.1.1.1 d.1.2.2.1.1 d.1.2.2.2.1.1 d.2.1.1 d.2.1.2.1 d.2.1.2.2.1 d.2.1.2.2.2.1) (fun _ _ => rfl) (fun k n d => slices_IndexFunc_Pay__post_Post_fn1_L0_step k (slices_IndexFunc_Pay__post_Post_fn1_L0 k n) d)
def as_slices_IndexFunc_Pay__post_Post_fn1 : List AS := [.c (.dat false (.pair (.int .i64) (.pair (.int .i64) (.pair (.int .i64) (.pair (.int .i64) (.pair (.int .i64) (.pair (.int .i64) (.int .i64)))))))), .fn 120 [[.dat false (.pair (.int .i64) (.pair (.int .i64) (.int .i64))), .dat false (.sl (.int .i64)), .dat false (.int .i64), .dat false (.sl (.int .i64))]]]
def rs_slices_IndexFunc_Pay__post_Post_fn1 : RS := .c (.int .i64)
def pk_slices_IndexFunc_Pay__post_Post_fn1 : Int → RL rs_slices_IndexFunc_Pay__post_Post_fn1.cells := fun x => (x, ())
def up_slices_IndexFunc_Pay__post_Post_fn1 : RL rs_slices_IndexFunc_Pay__post_Post_fn1.cells → Int := fun d => d.1
def R_slices_IndexFunc_Pay__post_Post_fn1 : Nat × Entry := (122, fun k nm args h => entry as_slices_IndexFunc_Pay__post_Post_fn1 rs_slices_IndexFunc_Pay__post_Post_fn1 (fun d => slices_IndexFunc_Pay__post_Post_fn1 k d.1 d.2.1 d.2.2.1 d.2.2.2.1 d.2.2.2.2.1) pk_slices_IndexFunc_Pay__post_Post_fn1 nm args h)
theorem slices_IndexFunc_Pay__post_Post_fn1_ev (k : Nat) (d : AD as_slices_IndexFunc_Pay__post_Post_fn1) : evF E_slices_IndexFunc_Pay__post_Post_fn1 A_slices_IndexFunc_Pay__post_Post_fn1 k 1000 0 Proofs.Try.f122 (absArgs as_slices_IndexFunc_Pay__post_Post_fn1 d).1 (absArgs as_slices_IndexFunc_Pay__post_Post_fn1 d).2 (outM rs_slices_IndexFunc_Pay__post_Post_fn1 up_slices_IndexFunc_Pay__post_Post_fn1) = slices_IndexFunc_Pay__post_Post_fn1 k d.1 d.2.1 d.2.2.1 d.2.2.2.1 d.2.2.2.2.1 := by
  obtain ⟨_, _, _, _, _, _⟩ := d
  kernel_rfl
theorem R_slices_IndexFunc_Pay__post_Post_fn1_ok : EntryOK Proofs.Try.prog R_slices_IndexFunc_Pay__post_Post_fn1 := fun k _ _ _ _ _ hy =>
  entry_sound (unpack := up_slices_IndexFunc_Pay__post_Post_fn1) (A := A_slices_IndexFunc_Pay__post_Post_fn1) (k := k) (pre := 1000) (na := 0) (E := E_slices_IndexFunc_Pay__post_Post_fn1) E_slices_IndexFunc_Pay__post_Post_fn1_ok E_slices_IndexFunc_Pay__post_Post_fn1_local mixed_orders (f := 122) (fn := Proofs.Try.f122) (by kernel_rfl) (body_loops (loopsOK_of (n := 1) (by kernel_rfl) fun i hi => match i, hi with | 0, _ => ⟨L_slices_IndexFunc_Pay__post_Post_fn1_L0, by kernel_rfl, slices_IndexFunc_Pay__post_Post_fn1_L0_ok⟩ | i + 1, hi => absurd hi (by omega))) (enters (fn := Proofs.Try.f122) (by kernel_rfl) (by kernel_rfl) (by kernel_rfl)) (fun _ => rfl) (slices_IndexFunc_Pay__post_Post_fn1_ev k) hy
theorem R_slices_IndexFunc_Pay__post_Post_fn1_local : EntryLocal R_slices_IndexFunc_Pay__post_Post_fn1.2 := entry_local (S := fun k (d : AD as_slices_IndexFunc_Pay__post_Post_fn1) => slices_IndexFunc_Pay__post_Post_fn1 k d.1 d.2.1 d.2.2.1 d.2.2.2.1 d.2.2.2.2.1)

/-! ### slices.ContainsFunc[[]giro/api.Pay,giro/api.Pay] -/
noncomputable def E_slices_ContainsFunc_Pay__post_Post_fn1 : Env := ⟨Proofs.Try.prog, fun _ => false, sumsOf [R_slices_IndexFunc_Pay__post_Post_fn1]⟩
def A_slices_ContainsFunc_Pay__post_Post_fn1 : Notes := ⟨[], []⟩
theorem E_slices_ContainsFunc_Pay__post_Post_fn1_ok : EnvOK E_slices_ContainsFunc_Pay__post_Post_fn1 := ⟨eqOK_none, sumsOf_ok (List.forall_mem_cons.2 ⟨R_slices_IndexFunc_Pay__post_Post_fn1_ok, List.forall_mem_nil _⟩)⟩
theorem E_slices_ContainsFunc_Pay__post_Post_fn1_local : SumsLocal E_slices_ContainsFunc_Pay__post_Post_fn1.sums := sumsOf_local (List.forall_mem_cons.2 ⟨R_slices_IndexFunc_Pay__post_Post_fn1_local, List.forall_mem_nil _⟩)
def as_slices_ContainsFunc_Pay__post_Post_fn1 : List AS := [.c (.dat false (.pair (.int .i64) (.pair (.int .i64) (.pair (.int .i64) (.pair (.int .i64) (.pair (.int .i64) (.pair (.int .i64) (.int .i64)))))))), .fn 120 [[.dat false (.pair (.int .i64) (.pair (.int .i64) (.int .i64))), .dat false (.sl (.int .i64)), .dat false (.int .i64), .dat false (.sl (.int .i64))]]]
def rs_slices_ContainsFunc_Pay__post_Post_fn1 : RS := .c (.bool)
def pk_slices_ContainsFunc_Pay__post_Post_fn1 : Bool → RL rs_slices_ContainsFunc_Pay__post_Post_fn1.cells := fun x => (x, ())
def up_slices_ContainsFunc_Pay__post_Post_fn1 : RL rs_slices_ContainsFunc_Pay__post_Post_fn1.cells → Bool := fun d => d.1
def R_slices_ContainsFunc_Pay__post_Post_fn1 : Nat × Entry := (116, fun k nm args h => entry as_slices_ContainsFunc_Pay__post_Post_fn1 rs_slices_ContainsFunc_Pay__post_Post_fn1 (fun d => slices_ContainsFunc_Pay__post_Post_fn1 k d.1 d.2.1 d.2.2.1 d.2.2.2.1 d.2.2.2.2.1) pk_slices_ContainsFunc_Pay__post_Post_fn1 nm args h)
theorem slices_ContainsFunc_Pay__post_Post_fn1_ev (k : Nat) (d : AD as_slices_ContainsFunc_Pay__post_Post_fn1) : evF E_slices_ContainsFunc_Pay__post_Post_fn1 A_slices_ContainsFunc_Pay__post_Post_fn1 k 1000 0 Proofs.Try.f116 (absArgs as_slices_ContainsFunc_Pay__post_Post_fn1 d).1 (absArgs as_slices_ContainsFunc_Pay__post_Post_fn1 d).2 (outM rs_slices_ContainsFunc_Pay__post_Post_fn1 up_slices_ContainsFunc_Pay__post_Post_fn1) = slices_ContainsFunc_Pay__post_Post_fn1 k d.1 d.2.1 d.2.2.1 d.2.2.2.1 d.2.2.2.2.1 := by
  obtain ⟨_, _, _, _, _, _⟩ := d
  kernel_rfl
theorem R_slices_ContainsFunc_Pay__post_Post_fn1_ok : EntryOK Proofs.Try.prog R_slices_ContainsFunc_Pay__post_Post_fn1 := fun k _ _ _ _ _ hy =>
  entry_sound (unpack := up_slices_ContainsFunc_Pay__post_Post_fn1) (A := A_slices_ContainsFunc_Pay__post_Post_fn1) (k := k) (pre := 1000) (na := 0) (E := E_slices_ContainsFunc_Pay__post_Post_fn1) E_slices_ContainsFunc_Pay__post_Post_fn1_ok E_slices_ContainsFunc_Pay__post_Post_fn1_local mixed_orders (f := 116) (fn := Proofs.Try.f116) (by kernel_rfl) (body_loops (loopsOK_none (by kernel_rfl))) (enters (fn := Proofs.Try.f116) (by kernel_rfl) (by kernel_rfl) (by kernel_rfl)) (fun _ => rfl) (slices_ContainsFunc_Pay__post_Post_fn1_ev k) hy
theorem R_slices_ContainsFunc_Pay__post_Post_fn1_local : EntryLocal R_slices_ContainsFunc_Pay__post_Post_fn1.2 := entry_local (S := fun k (d : AD as_slices_ContainsFunc_Pay__post_Post_fn1) => slices_ContainsFunc_Pay__post_Post_fn1 k d.1 d.2.1 d.2.2.1 d.2.2.2.1 d.2.2.2.2.1)

/-! ### giro/post.Post -/
noncomputable def E_post_Post : Env := ⟨Proofs.Try.prog, fun _ => false, sumsOf [R_slices_ContainsFunc_Pay__post_Post_fn1, R_lim_Copy, R_acct_Kept, R_lim_Is]⟩
def I_post_Post_L0 : Spec := ⟨[(2, .c (.lit (.ptr 1001000 0))), (4, .c (.lit (.ptr 1001001 0))), (7, .c (.lit (.ptr 1001002 0))), (24, .c (.dat false (.pair (.int .i64) (.pair (.int .i64) (.pair (.int .i64) (.pair (.int .i64) (.pair (.int .i64) (.pair (.int .i64) (.int .i64))))))))), (25, .c (.int .i64)), (26, .c (.int .i64))], [.box true [.dat true (.pair (.int .i64) (.pair (.int .i64) (.int .i64))), .dat true (.sl (.int .i64)), .dat true (.int .i64), .dat true (.sl (.int .i64))], .box true [.lit .nsl, .lit .nsl, .lit .nsl, .lit .nsl], .box true [.lit (.osl 1001003 none), .lit (.osl 1001004 none), .lit (.osl 1001005 none), .lit (.osl 1001006 none)], .arr true (.pair (.int .i64) (.pair (.int .i64) (.int .i64))), .mat, .arr true (.int .i64), .mat], []⟩
def O_post_Post_L0 : List (Ex × Spec) := [(.exit 0, ⟨[(2, .c (.lit (.ptr 1001000 0))), (4, .c (.lit (.ptr 1001001 0))), (7, .c (.lit (.ptr 1001002 0)))], [.box true [.dat true (.pair (.int .i64) (.pair (.int .i64) (.int .i64))), .dat true (.sl (.int .i64)), .dat true (.int .i64), .dat true (.sl (.int .i64))], .box true [.lit .nsl, .lit .nsl, .lit .nsl, .lit .nsl], .box true [.lit (.osl 1001003 none), .lit (.osl 1001004 none), .lit (.osl 1001005 none), .lit (.osl 1001006 none)], .arr true (.pair (.int .i64) (.pair (.int .i64) (.int .i64))), .mat, .arr true (.int .i64), .mat], []⟩)]
def T_post_Post_L0 : OutD O_post_Post_L0 → (List (Int × Int × Int)) × (List (List Int)) × (List Int) × (List (List Int)) × (List (Int × Int × Int)) × (List (List Int)) × (List Int) × (List (List Int)) := fun d => (d.2.1.1, d.2.1.2.1, d.2.1.2.2.1, d.2.1.2.2.2.1, d.2.2.2.2.1, d.2.2.2.2.2.1, d.2.2.2.2.2.2.1, d.2.2.2.2.2.2.2.1)
def e_post_Post_L0 (base : Nat) (x : (List (Int × Int × Int)) × (List (List Int)) × (List Int) × (List (List Int)) × (List (Int × Int × Int)) × (List (List Int)) × (List Int) × (List (List Int))) (R : Type) (K : Ex → St → Option R) : Option R := K (.exit 0) (stOf base ⟨[(2, .c (.lit (.ptr 1001000 0))), (4, .c (.lit (.ptr 1001001 0))), (7, .c (.lit (.ptr 1001002 0)))], [.box true [.dat true (.pair (.int .i64) (.pair (.int .i64) (.int .i64))), .dat true (.sl (.int .i64)), .dat true (.int .i64), .dat true (.sl (.int .i64))], .box true [.lit .nsl, .lit .nsl, .lit .nsl, .lit .nsl], .box true [.lit (.osl 1001003 none), .lit (.osl 1001004 none), .lit (.osl 1001005 none), .lit (.osl 1001006 none)], .arr true (.pair (.int .i64) (.pair (.int .i64) (.int .i64))), .mat, .arr true (.int .i64), .mat], []⟩ (((), (), (), ()), ((x.1, x.2.1, x.2.2.1, x.2.2.2.1, ()), (), (), x.2.2.2.2.1, x.2.2.2.2.2.1, x.2.2.2.2.2.2.1, x.2.2.2.2.2.2.2, ())))
def L_post_Post_L0 : LoopSum := ⟨I_post_Post_L0, O_post_Post_L0, (List (Int × Int × Int)) × (List (List Int)) × (List Int) × (List (List Int)) × (List (Int × Int × Int)) × (List (List Int)) × (List Int) × (List (List Int)), fun k d => post_Post_L0 k k d.1.2.2.2.1.1 d.1.2.2.2.2.1.1 d.1.2.2.2.2.2.1.1 d.2.1.1 d.2.1.2.1 d.2.1.2.2.1 d.2.1.2.2.2.1 d.2.2.2.2.1 d.2.2.2.2.2.1 d.2.2.2.2.2.2.1 d.2.2.2.2.2.2.2.1, e_post_Post_L0⟩
def A_post_Post : Notes := ⟨[], [(6, L_post_Post_L0)]⟩
theorem E_post_Post_ok : EnvOK E_post_Post := ⟨eqOK_none, sumsOf_ok (List.forall_mem_cons.2 ⟨R_slices_ContainsFunc_Pay__post_Post_fn1_ok, List.forall_mem_cons.2 ⟨R_lim_Copy_ok, List.forall_mem_cons.2 ⟨R_acct_Kept_ok, List.forall_mem_cons.2 ⟨R_lim_Is_ok, List.forall_mem_nil _⟩⟩⟩⟩)⟩
theorem E_post_Post_local : SumsLocal E_post_Post.sums := sumsOf_local (List.forall_mem_cons.2 ⟨R_slices_ContainsFunc_Pay__post_Post_fn1_local, List.forall_mem_cons.2 ⟨R_lim_Copy_local, List.forall_mem_cons.2 ⟨R_acct_Kept_local, List.forall_mem_cons.2 ⟨R_lim_Is_local, List.forall_mem_nil _⟩⟩⟩⟩)
theorem post_Post_L0_step (k : Nat) (rec : List (Int × Int × Int × Int × Int × Int × Int) → Int → Int → List (Int × Int × Int) → List (List Int) → List Int → List (List Int) → List (Int × Int × Int) → List (List Int) → List Int → List (List Int) → Option ((List (Int × Int × Int)) × (List (List Int)) × (List Int) × (List (List Int)) × (List (Int × Int × Int)) × (List (List Int)) × (List Int) × (List (List Int)))) (d : I_post_Post_L0.den) : post_Post_L0b k rec d.1.2.2.2.1.1 d.1.2.2.2.2.1.1 d.1.2.2.2.2.2.1.1 d.2.1.1 d.2.1.2.1 d.2.1.2.2.1 d.2.1.2.2.2.1 d.2.2.2.2.1 d.2.2.2.2.2.1 d.2.2.2.2.2.2.1 d.2.2.2.2.2.2.2.1 = evC E_post_Post A_post_Post k 1000 0 104 (loopAt (bodyOf Proofs.Try.f97) 0) (stOf (1000 + loopBase) I_post_Post_L0 d) (roundK 1000 I_post_Post_L0 O_post_Post_L0 T_post_Post_L0 fun d => rec d.1.2.2.2.1.1 d.1.2.2.2.2.1.1 d.1.2.2.2.2.2.1.1 d.2.1.1 d.2.1.2.1 d.2.1.2.2.1 d.2.1.2.2.2.1 d.2.2.2.2.1 d.2.2.2.2.2.1 d.2.2.2.2.2.2.1 d.2.2.2.2.2.2.2.1) := by
  obtain ⟨⟨_, _, _, ⟨_, _⟩, ⟨_, _⟩, ⟨_, _⟩, _⟩, ⟨⟨_, _, _, _, _⟩, _, _, _, _, _, _, _⟩⟩ := d
  kernel_rfl
theorem post_Post_L0_ok : LoopOK Proofs.Try.prog 1000 0 104 (loopAt (bodyOf Proofs.Try.f97) 0) L_post_Post_L0 :=
  loop_sound (A := A_post_Post) (inS := I_post_Post_L0) (outs := O_post_Post_L0) E_post_Post_ok E_post_Post_local mixed_orders (loopsOK_none (by kernel_rfl)) T_post_Post_L0 e_post_Post_L0 (fun _ _ _ => rfl) (fun k n d => post_Post_L0 k n d.1.2.2.2.1.1 d.1.2.2.2.2.1.1 d.1.2.2.2.2.2.1.1 d.2.1.1 d.2.1.2.1 d.2.1.2.2.1 d.2.1.2.2.2.1 d.2.2.2.2.1 d.2.2.2.2.2.1 d.2.2.2.2.2.2.1 d.2.2.2.2.2.2.2.1) (fun _ _ => rfl) (fun k n d => post_Post_L0_step k (post_Post_L0 k n) d)
def as_post_Post : List AS := [.agg [.dat true (.pair (.int .i64) (.pair (.int .i64) (.int .i64))), .dat true (.sl (.int .i64)), .dat true (.int .i64), .dat true (.sl (.int .i64))], .c (.dat false (.pair (.int .i64) (.pair (.int .i64) (.pair (.int .i64) (.pair (.int .i64) (.pair (.int .i64) (.pair (.int .i64) (.int .i64))))))))]
def rs_post_Post : RS := .tup [(true, [.fro (.pair (.int .i64) (.pair (.int .i64) (.int .i64))), .fro (.sl (.int .i64)), .fro (.int .i64), .fro (.sl (.int .i64))]), (false, [.int .i64])]
def pk_post_Post : (List (Int × Int × Int)) × (List (List Int)) × (List Int) × (List (List Int)) × Int → RL rs_post_Post.cells := fun x => (x.1, x.2.1, x.2.2.1, x.2.2.2.1, x.2.2.2.2, ())
def up_post_Post : RL rs_post_Post.cells → (List (Int × Int × Int)) × (List (List Int)) × (List Int) × (List (List Int)) × Int := fun d => (d.1, d.2.1, d.2.2.1, d.2.2.2.1, d.2.2.2.2.1)
def R_post_Post : Nat × Entry := (97, fun k nm args h => entry as_post_Post rs_post_Post (fun d => post_Post k d.1 d.2.1 d.2.2.1 d.2.2.2.1 d.2.2.2.2.1) pk_post_Post nm args h)
theorem post_Post_ev (k : Nat) (d : AD as_post_Post) : evF E_post_Post A_post_Post k 1000 0 Proofs.Try.f97 (absArgs as_post_Post d).1 (absArgs as_post_Post d).2 (outM rs_post_Post up_post_Post) = post_Post k d.1 d.2.1 d.2.2.1 d.2.2.2.1 d.2.2.2.2.1 := by
  obtain ⟨_, _, _, _, _, _⟩ := d
  kernel_rfl
theorem R_post_Post_ok : EntryOK Proofs.Try.prog R_post_Post := fun k _ _ _ _ _ hy =>
  entry_sound (unpack := up_post_Post) (A := A_post_Post) (k := k) (pre := 1000) (na := 0) (E := E_post_Post) E_post_Post_ok E_post_Post_local mixed_orders (f := 97) (fn := Proofs.Try.f97) (by kernel_rfl) (body_loops (loopsOK_of (n := 1) (by kernel_rfl) fun i hi => match i, hi with | 0, _ => ⟨L_post_Post_L0, by kernel_rfl, post_Post_L0_ok⟩ | i + 1, hi => absurd hi (by omega))) (enters (fn := Proofs.Try.f97) (by kernel_rfl) (by kernel_rfl) (by kernel_rfl)) (fun _ => rfl) (post_Post_ev k) hy
theorem R_post_Post_local : EntryLocal R_post_Post.2 := entry_local (S := fun k (d : AD as_post_Post) => post_Post k d.1 d.2.1 d.2.2.1 d.2.2.2.1 d.2.2.2.2.1)

/-! ### giro/free.next -/
noncomputable def E_free_next : Env := ⟨Proofs.Try.prog, fun _ => false, sumsOf [R_view_May, R_fits_Fits, R_post_Post]⟩
def I_free_next_L0 : Spec := ⟨[(3, .c (.lit (.ptr 1001000 0))), (6, .c (.lit (.ptr 1001001 0))), (7, .c (.lit (.ptr 1001002 0))), (15, .c (.lit (.osl 1001003 none))), (16, .c (.int .i64)), (17, .c (.int .i64))], [.box true [.dat true (.pair (.int .i64) (.pair (.int .i64) (.int .i64))), .dat true (.sl (.int .i64)), .dat true (.int .i64), .dat true (.sl (.int .i64))], .box true [.int .i64, .int .i64, .int .i64, .int .i64, .int .i64, .int .i64, .int .i64], .box true [.lit .nsl, .lit .nsl, .lit .nsl, .lit .nsl], .arr true (.pair (.int .i64) (.pair (.int .i64) (.pair (.int .i64) (.pair (.int .i64) (.pair (.int .i64) (.pair (.int .i64) (.int .i64)))))))], []⟩
def O_free_next_L0 : List (Ex × Spec) := [(.exit 0, ⟨[(3, .c (.lit (.ptr 1001000 0))), (6, .c (.lit (.ptr 1001001 0))), (7, .c (.lit (.ptr 1001002 0)))], [.box true [.dat true (.pair (.int .i64) (.pair (.int .i64) (.int .i64))), .dat true (.sl (.int .i64)), .dat true (.int .i64), .dat true (.sl (.int .i64))], .box true [.int .i64, .int .i64, .int .i64, .int .i64, .int .i64, .int .i64, .int .i64], .box true [.lit .nsl, .lit .nsl, .lit .nsl, .lit .nsl]], []⟩), (.ret, ⟨[(6, .c (.lit (.ptr 1001000 0))), (7, .c (.lit (.ptr 1001001 0))), (8, .c (.bool))], [.box true [.int .i64, .int .i64, .int .i64, .int .i64, .int .i64, .int .i64, .int .i64], .box true [.dat true (.pair (.int .i64) (.pair (.int .i64) (.int .i64))), .dat true (.sl (.int .i64)), .dat true (.int .i64), .dat true (.sl (.int .i64))]], []⟩)]
def T_free_next_L0 : OutD O_free_next_L0 → ((List (Int × Int × Int)) × (List (List Int)) × (List Int) × (List (List Int)) × Int × Int × Int × Int × Int × Int × Int) ⊕ (Bool × Int × Int × Int × Int × Int × Int × Int × (List (Int × Int × Int)) × (List (List Int)) × (List Int) × (List (List Int)))
 | .inl d => .inl (d.2.1.1, d.2.1.2.1, d.2.1.2.2.1, d.2.1.2.2.2.1, d.2.2.1.1, d.2.2.1.2.1, d.2.2.1.2.2.1, d.2.2.1.2.2.2.1, d.2.2.1.2.2.2.2.1, d.2.2.1.2.2.2.2.2.1, d.2.2.1.2.2.2.2.2.2.1)
 | .inr d => .inr (d.1.2.2.1.1, d.2.1.1, d.2.1.2.1, d.2.1.2.2.1, d.2.1.2.2.2.1, d.2.1.2.2.2.2.1, d.2.1.2.2.2.2.2.1, d.2.1.2.2.2.2.2.2.1, d.2.2.1.1, d.2.2.1.2.1, d.2.2.1.2.2.1, d.2.2.1.2.2.2.1)
def e_free_next_L0 (base : Nat) (x : ((List (Int × Int × Int)) × (List (List Int)) × (List Int) × (List (List Int)) × Int × Int × Int × Int × Int × Int × Int) ⊕ (Bool × Int × Int × Int × Int × Int × Int × Int × (List (Int × Int × Int)) × (List (List Int)) × (List Int) × (List (List Int)))) (R : Type) (K : Ex → St → Option R) : Option R := match x with
 | .inl x => K (.exit 0) (stOf base ⟨[(3, .c (.lit (.ptr 1001000 0))), (6, .c (.lit (.ptr 1001001 0))), (7, .c (.lit (.ptr 1001002 0)))], [.box true [.dat true (.pair (.int .i64) (.pair (.int .i64) (.int .i64))), .dat true (.sl (.int .i64)), .dat true (.int .i64), .dat true (.sl (.int .i64))], .box true [.int .i64, .int .i64, .int .i64, .int .i64, .int .i64, .int .i64, .int .i64], .box true [.lit .nsl, .lit .nsl, .lit .nsl, .lit .nsl]], []⟩ (((), (), (), ()), ((x.1, x.2.1, x.2.2.1, x.2.2.2.1, ()), (x.2.2.2.2.1, x.2.2.2.2.2.1, x.2.2.2.2.2.2.1, x.2.2.2.2.2.2.2.1, x.2.2.2.2.2.2.2.2.1, x.2.2.2.2.2.2.2.2.2.1, x.2.2.2.2.2.2.2.2.2.2, ()), (), ())))
 | .inr x => K .ret (stOf base ⟨[(6, .c (.lit (.ptr 1001000 0))), (7, .c (.lit (.ptr 1001001 0))), (8, .c (.bool))], [.box true [.int .i64, .int .i64, .int .i64, .int .i64, .int .i64, .int .i64, .int .i64], .box true [.dat true (.pair (.int .i64) (.pair (.int .i64) (.int .i64))), .dat true (.sl (.int .i64)), .dat true (.int .i64), .dat true (.sl (.int .i64))]], []⟩ (((), (), (x.1, ()), ()), ((x.2.1, x.2.2.1, x.2.2.2.1, x.2.2.2.2.1, x.2.2.2.2.2.1, x.2.2.2.2.2.2.1, x.2.2.2.2.2.2.2.1, ()), (x.2.2.2.2.2.2.2.2.1, x.2.2.2.2.2.2.2.2.2.1, x.2.2.2.2.2.2.2.2.2.2.1, x.2.2.2.2.2.2.2.2.2.2.2, ()), ())))
def L_free_next_L0 : LoopSum := ⟨I_free_next_L0, O_free_next_L0, ((List (Int × Int × Int)) × (List (List Int)) × (List Int) × (List (List Int)) × Int × Int × Int × Int × Int × Int × Int) ⊕ (Bool × Int × Int × Int × Int × Int × Int × Int × (List (Int × Int × Int)) × (List (List Int)) × (List Int) × (List (List Int))), fun k d => free_next_L0 k k d.1.2.2.2.2.1.1 d.1.2.2.2.2.2.1.1 d.2.1.1 d.2.1.2.1 d.2.1.2.2.1 d.2.1.2.2.2.1 d.2.2.1.1 d.2.2.1.2.1 d.2.2.1.2.2.1 d.2.2.1.2.2.2.1 d.2.2.1.2.2.2.2.1 d.2.2.1.2.2.2.2.2.1 d.2.2.1.2.2.2.2.2.2.1 d.2.2.2.2.1, e_free_next_L0⟩
def A_free_next : Notes := ⟨[], [(2, L_free_next_L0)]⟩
theorem E_free_next_ok : EnvOK E_free_next := ⟨eqOK_none, sumsOf_ok (List.forall_mem_cons.2 ⟨R_view_May_ok, List.forall_mem_cons.2 ⟨R_fits_Fits_ok, List.forall_mem_cons.2 ⟨R_post_Post_ok, List.forall_mem_nil _⟩⟩⟩)⟩
theorem E_free_next_local : SumsLocal E_free_next.sums := sumsOf_local (List.forall_mem_cons.2 ⟨R_view_May_local, List.forall_mem_cons.2 ⟨R_fits_Fits_local, List.forall_mem_cons.2 ⟨R_post_Post_local, List.forall_mem_nil _⟩⟩⟩)
theorem free_next_L0_step (k : Nat) (rec : Int → Int → List (Int × Int × Int) → List (List Int) → List Int → List (List Int) → Int → Int → Int → Int → Int → Int → Int → List (Int × Int × Int × Int × Int × Int × Int) → Option (((List (Int × Int × Int)) × (List (List Int)) × (List Int) × (List (List Int)) × Int × Int × Int × Int × Int × Int × Int) ⊕ (Bool × Int × Int × Int × Int × Int × Int × Int × (List (Int × Int × Int)) × (List (List Int)) × (List Int) × (List (List Int))))) (d : I_free_next_L0.den) : free_next_L0b k rec d.1.2.2.2.2.1.1 d.1.2.2.2.2.2.1.1 d.2.1.1 d.2.1.2.1 d.2.1.2.2.1 d.2.1.2.2.2.1 d.2.2.1.1 d.2.2.1.2.1 d.2.2.1.2.2.1 d.2.2.1.2.2.2.1 d.2.2.1.2.2.2.2.1 d.2.2.1.2.2.2.2.2.1 d.2.2.1.2.2.2.2.2.2.1 d.2.2.2.2.1 = evC E_free_next A_free_next k 1000 0 40 (loopAt (bodyOf Proofs.Try.f72) 0) (stOf (1000 + loopBase) I_free_next_L0 d) (roundK 1000 I_free_next_L0 O_free_next_L0 T_free_next_L0 fun d => rec d.1.2.2.2.2.1.1 d.1.2.2.2.2.2.1.1 d.2.1.1 d.2.1.2.1 d.2.1.2.2.1 d.2.1.2.2.2.1 d.2.2.1.1 d.2.2.1.2.1 d.2.2.1.2.2.1 d.2.2.1.2.2.2.1 d.2.2.1.2.2.2.2.1 d.2.2.1.2.2.2.2.2.1 d.2.2.1.2.2.2.2.2.2.1 d.2.2.2.2.1) := by
  obtain ⟨⟨_, _, _, _, ⟨_, _⟩, ⟨_, _⟩, _⟩, ⟨⟨_, _, _, _, _⟩, ⟨_, _, _, _, _, _, _, _⟩, _, _, _⟩⟩ := d
  kernel_rfl
theorem free_next_L0_ok : LoopOK Proofs.Try.prog 1000 0 40 (loopAt (bodyOf Proofs.Try.f72) 0) L_free_next_L0 :=
  loop_sound (A := A_free_next) (inS := I_free_next_L0) (outs := O_free_next_L0) E_free_next_ok E_free_next_local mixed_orders (loopsOK_none (by kernel_rfl)) T_free_next_L0 e_free_next_L0 (by intro o R K; rcases o with o | o <;> rfl) (fun k n d => free_next_L0 k n d.1.2.2.2.2.1.1 d.1.2.2.2.2.2.1.1 d.2.1.1 d.2.1.2.1 d.2.1.2.2.1 d.2.1.2.2.2.1 d.2.2.1.1 d.2.2.1.2.1 d.2.2.1.2.2.1 d.2.2.1.2.2.2.1 d.2.2.1.2.2.2.2.1 d.2.2.1.2.2.2.2.2.1 d.2.2.1.2.2.2.2.2.2.1 d.2.2.2.2.1) (fun _ _ => rfl) (fun k n d => free_next_L0_step k (free_next_L0 k n) d)
def as_free_next : List AS := [.agg [.dat true (.pair (.int .i64) (.pair (.int .i64) (.int .i64))), .dat true (.sl (.int .i64)), .dat true (.int .i64), .dat true (.sl (.int .i64))], .c (.dat true (.pair (.int .i64) (.pair (.int .i64) (.pair (.int .i64) (.pair (.int .i64) (.pair (.int .i64) (.pair (.int .i64) (.int .i64)))))))), .c (.int .i64)]
def rs_free_next : RS := .tup [(true, [.int .i64, .int .i64, .int .i64, .int .i64, .int .i64, .int .i64, .int .i64]), (true, [.fro (.pair (.int .i64) (.pair (.int .i64) (.int .i64))), .fro (.sl (.int .i64)), .fro (.int .i64), .fro (.sl (.int .i64))]), (false, [.bool])]
def pk_free_next : Int × Int × Int × Int × Int × Int × Int × (List (Int × Int × Int)) × (List (List Int)) × (List Int) × (List (List Int)) × Bool → RL rs_free_next.cells := fun x => (x.1, x.2.1, x.2.2.1, x.2.2.2.1, x.2.2.2.2.1, x.2.2.2.2.2.1, x.2.2.2.2.2.2.1, x.2.2.2.2.2.2.2.1, x.2.2.2.2.2.2.2.2.1, x.2.2.2.2.2.2.2.2.2.1, x.2.2.2.2.2.2.2.2.2.2.1, x.2.2.2.2.2.2.2.2.2.2.2, ())
def up_free_next : RL rs_free_next.cells → Int × Int × Int × Int × Int × Int × Int × (List (Int × Int × Int)) × (List (List Int)) × (List Int) × (List (List Int)) × Bool := fun d => (d.1, d.2.1, d.2.2.1, d.2.2.2.1, d.2.2.2.2.1, d.2.2.2.2.2.1, d.2.2.2.2.2.2.1, d.2.2.2.2.2.2.2.1, d.2.2.2.2.2.2.2.2.1, d.2.2.2.2.2.2.2.2.2.1, d.2.2.2.2.2.2.2.2.2.2.1, d.2.2.2.2.2.2.2.2.2.2.2.1)
def R_free_next : Nat × Entry := (72, fun k nm args h => entry as_free_next rs_free_next (fun d => free_next k d.1 d.2.1 d.2.2.1 d.2.2.2.1 d.2.2.2.2.1 d.2.2.2.2.2.1) pk_free_next nm args h)
theorem free_next_ev (k : Nat) (d : AD as_free_next) : evF E_free_next A_free_next k 1000 0 Proofs.Try.f72 (absArgs as_free_next d).1 (absArgs as_free_next d).2 (outM rs_free_next up_free_next) = free_next k d.1 d.2.1 d.2.2.1 d.2.2.2.1 d.2.2.2.2.1 d.2.2.2.2.2.1 := by
  obtain ⟨_, _, _, _, _, _, _⟩ := d
  kernel_rfl
theorem R_free_next_ok : EntryOK Proofs.Try.prog R_free_next := fun k _ _ _ _ _ hy =>
  entry_sound (unpack := up_free_next) (A := A_free_next) (k := k) (pre := 1000) (na := 0) (E := E_free_next) E_free_next_ok E_free_next_local mixed_orders (f := 72) (fn := Proofs.Try.f72) (by kernel_rfl) (body_loops (loopsOK_of (n := 1) (by kernel_rfl) fun i hi => match i, hi with | 0, _ => ⟨L_free_next_L0, by kernel_rfl, free_next_L0_ok⟩ | i + 1, hi => absurd hi (by omega))) (enters (fn := Proofs.Try.f72) (by kernel_rfl) (by kernel_rfl) (by kernel_rfl)) (fun _ => rfl) (free_next_ev k) hy
theorem R_free_next_local : EntryLocal R_free_next.2 := entry_local (S := fun k (d : AD as_free_next) => free_next k d.1 d.2.1 d.2.2.1 d.2.2.2.1 d.2.2.2.2.1 d.2.2.2.2.2.1)

/-! ### giro/row.Find$1 -/
noncomputable def E_row_Find_fn1 : Env := ⟨Proofs.Try.prog, fun _ => false, sumsOf []⟩
def A_row_Find_fn1 : Notes := ⟨[], []⟩
theorem E_row_Find_fn1_ok : EnvOK E_row_Find_fn1 := ⟨eqOK_none, sumsOf_ok (List.forall_mem_nil _)⟩
theorem E_row_Find_fn1_local : SumsLocal E_row_Find_fn1.sums := sumsOf_local (List.forall_mem_nil _)
def as_row_Find_fn1 : List AS := [.agg [.int .i64, .int .i64, .int .i64, .int .i64, .int .i64, .int .i64, .int .i64], .ptr [.int .i64]]
def rs_row_Find_fn1 : RS := .c (.bool)
def pk_row_Find_fn1 : Bool → RL rs_row_Find_fn1.cells := fun x => (x, ())
def up_row_Find_fn1 : RL rs_row_Find_fn1.cells → Bool := fun d => d.1
def R_row_Find_fn1 : Nat × Entry := (123, fun k nm args h => entry as_row_Find_fn1 rs_row_Find_fn1 (fun d => row_Find_fn1 k d.1 d.2.1 d.2.2.1 d.2.2.2.1 d.2.2.2.2.1 d.2.2.2.2.2.1 d.2.2.2.2.2.2.1 d.2.2.2.2.2.2.2.1) pk_row_Find_fn1 nm args h)
theorem row_Find_fn1_ev (k : Nat) (d : AD as_row_Find_fn1) : evF E_row_Find_fn1 A_row_Find_fn1 k 1000 0 Proofs.Try.f123 (absArgs as_row_Find_fn1 d).1 (absArgs as_row_Find_fn1 d).2 (outM rs_row_Find_fn1 up_row_Find_fn1) = row_Find_fn1 k d.1 d.2.1 d.2.2.1 d.2.2.2.1 d.2.2.2.2.1 d.2.2.2.2.2.1 d.2.2.2.2.2.2.1 d.2.2.2.2.2.2.2.1 := by
  obtain ⟨_, _, _, _, _, _, _, _, _⟩ := d
  kernel_rfl
theorem R_row_Find_fn1_ok : EntryOK Proofs.Try.prog R_row_Find_fn1 := fun k _ _ _ _ _ hy =>
  entry_sound (unpack := up_row_Find_fn1) (A := A_row_Find_fn1) (k := k) (pre := 1000) (na := 0) (E := E_row_Find_fn1) E_row_Find_fn1_ok E_row_Find_fn1_local mixed_orders (f := 123) (fn := Proofs.Try.f123) (by kernel_rfl) (body_loops (loopsOK_none (by kernel_rfl))) (enters (fn := Proofs.Try.f123) (by kernel_rfl) (by kernel_rfl) (by kernel_rfl)) (fun _ => rfl) (row_Find_fn1_ev k) hy
theorem R_row_Find_fn1_local : EntryLocal R_row_Find_fn1.2 := entry_local (S := fun k (d : AD as_row_Find_fn1) => row_Find_fn1 k d.1 d.2.1 d.2.2.1 d.2.2.2.1 d.2.2.2.2.1 d.2.2.2.2.2.1 d.2.2.2.2.2.2.1 d.2.2.2.2.2.2.2.1)

/-! ### slices.IndexFunc[[]giro/api.Pay,giro/api.Pay] -/
noncomputable def E_slices_IndexFunc_Pay__row_Find_fn1 : Env := ⟨Proofs.Try.prog, fun _ => false, sumsOf [R_row_Find_fn1]⟩
def I_slices_IndexFunc_Pay__row_Find_fn1_L0 : Spec := ⟨[(0, .c (.dat false (.pair (.int .i64) (.pair (.int .i64) (.pair (.int .i64) (.pair (.int .i64) (.pair (.int .i64) (.pair (.int .i64) (.int .i64))))))))), (1, .c (.lit (.fn 123 [1001000]))), (7, .c (.int .i64)), (8, .c (.int .i64))], [.robox [.int .i64]], []⟩
def O_slices_IndexFunc_Pay__row_Find_fn1_L0 : List (Ex × Spec) := [(.exit 0, ⟨[], [], []⟩), (.ret, ⟨[(4, .c (.int .i64))], [], []⟩)]
def T_slices_IndexFunc_Pay__row_Find_fn1_L0 : OutD O_slices_IndexFunc_Pay__row_Find_fn1_L0 → Unit ⊕ Int
 | .inl d => .inl ()
 | .inr d => .inr d.1.1.1
def e_slices_IndexFunc_Pay__row_Find_fn1_L0 (base : Nat) (x : Unit ⊕ Int) (R : Type) (K : Ex → St → Option R) : Option R := match x with
 | .inl x => K (.exit 0) (stOf base ⟨[], [], []⟩ ((), ()))
 | .inr x => K .ret (stOf base ⟨[(4, .c (.int .i64))], [], []⟩ (((x, ()), ()), ()))
def L_slices_IndexFunc_Pay__row_Find_fn1_L0 : LoopSum := ⟨I_slices_IndexFunc_Pay__row_Find_fn1_L0, O_slices_IndexFunc_Pay__row_Find_fn1_L0, Unit ⊕ Int, fun k d => slices_IndexFunc_Pay__row_Find_fn1_L0 k k d.1.1.1 d.1.2.2.1.1 d.1.2.2.2.1.1 d.2.1.1, e_slices_IndexFunc_Pay__row_Find_fn1_L0⟩
def A_slices_IndexFunc_Pay__row_Find_fn1 : Notes := ⟨[], [(2, L_slices_IndexFunc_Pay__row_Find_fn1_L0)]⟩
theorem E_slices_IndexFunc_Pay__row_Find_fn1_ok : EnvOK E_slices_IndexFunc_Pay__row_Find_fn1 := ⟨eqOK_none, sumsOf_ok (List.forall_mem_cons.2 ⟨R_row_Find_fn1_ok, List.forall_mem_nil _⟩)⟩
theorem E_slices_IndexFunc_Pay__row_Find_fn1_local : SumsLocal E_slices_IndexFunc_Pay__row_Find_fn1.sums := sumsOf_local (List.forall_mem_cons.2 ⟨R_row_Find_fn1_local, List.forall_mem_nil _⟩)
theorem slices_IndexFunc_Pay__row_Find_fn1_L0_step (k : Nat) (rec : List (Int × Int × Int × Int × Int × Int × Int) → Int → Int → Int → Option (Unit ⊕ Int)) (d : I_slices_IndexFunc_Pay__row_Find_fn1_L0.den) : slices_IndexFunc_Pay__row_Find_fn1_L0b k rec d.1.1.1 d.1.2.2.1.1 d.1.2.2.2.1.1 d.2.1.1 = evC E_slices_IndexFunc_Pay__row_Find_fn1 A_slices_IndexFunc_Pay__row_Find_fn1 k 1000 0 19 (loopAt (bodyOf Proofs.Try.f122) 0) (stOf (1000 + loopBase) I_slices_IndexFunc_Pay__row_Find_fn1_L0 d) (roundK 1000 I_slices_IndexFunc_Pay__row_Find_fn1_L0 O_slices_IndexFunc_Pay__row_Find_fn1_L0 T_slices_IndexFunc_Pay__row_Find_fn1_L0 fun d => rec d.1.1.1 d.1.2.2.1.1 d.1.2.2.2.1.1 d.2.1.1) := by
  obtain ⟨⟨⟨_, _⟩, _, ⟨_, _⟩, ⟨_, _⟩, _⟩, ⟨⟨_, _⟩, _⟩⟩ := d
  kernel_rfl
theorem slices_IndexFunc_Pay__row_Find_fn1_L0_ok : LoopOK Proofs.Try.prog 1000 0 19 (loopAt (bodyOf Proofs.Try.f122) 0) L_slices_IndexFunc_Pay__row_Find_fn1_L0 :=
  loop_sound (A := A_slices_IndexFunc_Pay__row_Find_fn1) (inS := I_slices_IndexFunc_Pay__row_Find_fn1_L0) (outs := O_slices_IndexFunc_Pay__row_Find_fn1_L0) E_slices_IndexFunc_Pay__row_Find_fn1_ok E_slices_IndexFunc_Pay__row_Find_fn1_local mixed_orders (loopsOK_none (by kernel_rfl)) T_slices_IndexFunc_Pay__row_Find_fn1_L0 e_slices_IndexFunc_Pay__row_Find_fn1_L0 (by intro o R K; rcases o with o | o <;> rfl) (fun k n d => slices_IndexFunc_Pay__row_Find_fn1_L0 k n d.1.1.1 d.1.2.2.1.1 d.1.2.2.2.1.1 d.2.1.1) (fun _ _ => rfl) (fun k n d => slices_IndexFunc_Pay__row_Find_fn1_L0_step k (slices_IndexFunc_Pay__row_Find_fn1_L0 k n) d)
def as_slices_IndexFunc_Pay__row_Find_fn1 : List AS := [.c (.dat false (.pair (.int .i64) (.pair (.int .i64) (.pair (.int .i64) (.pair (.int .i64) (.pair (.int .i64) (.pair (.int .i64) (.int .i64)))))))), .fn 123 [[.int .i64]]]
def rs_slices_IndexFunc_Pay__row_Find_fn1 : RS := .c (.int .i64)
def pk_slices_IndexFunc_Pay__row_Find_fn1 : Int → RL rs_slices_IndexFunc_Pay__row_Find_fn1.cells := fun x => (x, ())
def up_slices_IndexFunc_Pay__row_Find_fn1 : RL rs_slices_IndexFunc_Pay__row_Find_fn1.cells → Int := fun d => d.1
def R_slices_IndexFunc_Pay__row_Find_fn1 : Nat × Entry := (122, fun k nm args h => entry as_slices_IndexFunc_Pay__row_Find_fn1 rs_slices_IndexFunc_Pay__row_Find_fn1 (fun d => slices_IndexFunc_Pay__row_Find_fn1 k d.1 d.2.1) pk_slices_IndexFunc_Pay__row_Find_fn1 nm args h)
theorem slices_IndexFunc_Pay__row_Find_fn1_ev (k : Nat) (d : AD as_slices_IndexFunc_Pay__row_Find_fn1) : evF E_slices_IndexFunc_Pay__row_Find_fn1 A_slices_IndexFunc_Pay__row_Find_fn1 k 1000 0 Proofs.Try.f122 (absArgs as_slices_IndexFunc_Pay__row_Find_fn1 d).1 (absArgs as_slices_IndexFunc_Pay__row_Find_fn1 d).2 (outM rs_slices_IndexFunc_Pay__row_Find_fn1 up_slices_IndexFunc_Pay__row_Find_fn1) = slices_IndexFunc_Pay__row_Find_fn1 k d.1 d.2.1 := by
  obtain ⟨_, _, _⟩ := d
  kernel_rfl
theorem R_slices_IndexFunc_Pay__row_Find_fn1_ok : EntryOK Proofs.Try.prog R_slices_IndexFunc_Pay__row_Find_fn1 := fun k _ _ _ _ _ hy =>
  entry_sound (unpack := up_slices_IndexFunc_Pay__row_Find_fn1) (A := A_slices_IndexFunc_Pay__row_Find_fn1) (k := k) (pre := 1000) (na := 0) (E := E_slices_IndexFunc_Pay__row_Find_fn1) E_slices_IndexFunc_Pay__row_Find_fn1_ok E_slices_IndexFunc_Pay__row_Find_fn1_local mixed_orders (f := 122) (fn := Proofs.Try.f122) (by kernel_rfl) (body_loops (loopsOK_of (n := 1) (by kernel_rfl) fun i hi => match i, hi with | 0, _ => ⟨L_slices_IndexFunc_Pay__row_Find_fn1_L0, by kernel_rfl, slices_IndexFunc_Pay__row_Find_fn1_L0_ok⟩ | i + 1, hi => absurd hi (by omega))) (enters (fn := Proofs.Try.f122) (by kernel_rfl) (by kernel_rfl) (by kernel_rfl)) (fun _ => rfl) (slices_IndexFunc_Pay__row_Find_fn1_ev k) hy
theorem R_slices_IndexFunc_Pay__row_Find_fn1_local : EntryLocal R_slices_IndexFunc_Pay__row_Find_fn1.2 := entry_local (S := fun k (d : AD as_slices_IndexFunc_Pay__row_Find_fn1) => slices_IndexFunc_Pay__row_Find_fn1 k d.1 d.2.1)

/-! ### giro/row.Find -/
noncomputable def E_row_Find : Env := ⟨Proofs.Try.prog, fun _ => false, sumsOf [R_slices_IndexFunc_Pay__row_Find_fn1]⟩
def A_row_Find : Notes := ⟨[], []⟩
theorem E_row_Find_ok : EnvOK E_row_Find := ⟨eqOK_none, sumsOf_ok (List.forall_mem_cons.2 ⟨R_slices_IndexFunc_Pay__row_Find_fn1_ok, List.forall_mem_nil _⟩)⟩
theorem E_row_Find_local : SumsLocal E_row_Find.sums := sumsOf_local (List.forall_mem_cons.2 ⟨R_slices_IndexFunc_Pay__row_Find_fn1_local, List.forall_mem_nil _⟩)
def as_row_Find : List AS := [.c (.dat false (.pair (.int .i64) (.pair (.int .i64) (.pair (.int .i64) (.pair (.int .i64) (.pair (.int .i64) (.pair (.int .i64) (.int .i64)))))))), .c (.int .i64)]
def rs_row_Find : RS := .c (.int .i64)
def pk_row_Find : Int → RL rs_row_Find.cells := fun x => (x, ())
def up_row_Find : RL rs_row_Find.cells → Int := fun d => d.1
def R_row_Find : Nat × Entry := (98, fun k nm args h => entry as_row_Find rs_row_Find (fun d => row_Find k d.1 d.2.1) pk_row_Find nm args h)
theorem row_Find_ev (k : Nat) (d : AD as_row_Find) : evF E_row_Find A_row_Find k 1000 0 Proofs.Try.f98 (absArgs as_row_Find d).1 (absArgs as_row_Find d).2 (outM rs_row_Find up_row_Find) = row_Find k d.1 d.2.1 := by
  obtain ⟨_, _, _⟩ := d
  kernel_rfl
theorem R_row_Find_ok : EntryOK Proofs.Try.prog R_row_Find := fun k _ _ _ _ _ hy =>
  entry_sound (unpack := up_row_Find) (A := A_row_Find) (k := k) (pre := 1000) (na := 0) (E := E_row_Find) E_row_Find_ok E_row_Find_local mixed_orders (f := 98) (fn := Proofs.Try.f98) (by kernel_rfl) (body_loops (loopsOK_none (by kernel_rfl))) (enters (fn := Proofs.Try.f98) (by kernel_rfl) (by kernel_rfl) (by kernel_rfl)) (fun _ => rfl) (row_Find_ev k) hy
theorem R_row_Find_local : EntryLocal R_row_Find.2 := entry_local (S := fun k (d : AD as_row_Find) => row_Find k d.1 d.2.1)

/-! ### slices.Clone[[]giro/api.Pay,giro/api.Pay] -/
noncomputable def E_slices_Clone_Pay : Env := ⟨Proofs.Try.prog, fun _ => false, sumsOf []⟩
def A_slices_Clone_Pay : Notes := ⟨[], []⟩
theorem E_slices_Clone_Pay_ok : EnvOK E_slices_Clone_Pay := ⟨eqOK_none, sumsOf_ok (List.forall_mem_nil _)⟩
theorem E_slices_Clone_Pay_local : SumsLocal E_slices_Clone_Pay.sums := sumsOf_local (List.forall_mem_nil _)
def as_slices_Clone_Pay : List AS := [.c (.dat false (.pair (.int .i64) (.pair (.int .i64) (.pair (.int .i64) (.pair (.int .i64) (.pair (.int .i64) (.pair (.int .i64) (.int .i64))))))))]
def rs_slices_Clone_Pay : RS := .c (.own (.pair (.int .i64) (.pair (.int .i64) (.pair (.int .i64) (.pair (.int .i64) (.pair (.int .i64) (.pair (.int .i64) (.int .i64))))))))
def pk_slices_Clone_Pay : List (Int × Int × Int × Int × Int × Int × Int) → RL rs_slices_Clone_Pay.cells := fun x => (x, ())
def up_slices_Clone_Pay : RL rs_slices_Clone_Pay.cells → List (Int × Int × Int × Int × Int × Int × Int) := fun d => d.1
def R_slices_Clone_Pay : Nat × Entry := (100, fun k nm args h => entry as_slices_Clone_Pay rs_slices_Clone_Pay (fun d => slices_Clone_Pay k d.1) pk_slices_Clone_Pay nm args h)
theorem slices_Clone_Pay_nil (k : Nat) : evF E_slices_Clone_Pay A_slices_Clone_Pay k 1000 0 Proofs.Try.f100 [.c .nsl] (boxHp []) (outM rs_slices_Clone_Pay up_slices_Clone_Pay) = slices_Clone_Pay k [] := by kernel_rfl
theorem slices_Clone_Pay_ev (k : Nat) (xs : List (Int × Int × Int × Int × Int × Int × Int)) : evF E_slices_Clone_Pay A_slices_Clone_Pay k 1000 0 Proofs.Try.f100 [.c (.nfl false (.pair (.int .i64) (.pair (.int .i64) (.pair (.int .i64) (.pair (.int .i64) (.pair (.int .i64) (.pair (.int .i64) (.int .i64))))))) xs)] (boxHp []) (outM rs_slices_Clone_Pay up_slices_Clone_Pay) = slices_Clone_Pay k xs := by kernel_rfl
theorem R_slices_Clone_Pay_ok : EntryOK Proofs.Try.prog R_slices_Clone_Pay := fun k _ _ _ _ _ hy =>
  entry_nil (t := (.pair (.int .i64) (.pair (.int .i64) (.pair (.int .i64) (.pair (.int .i64) (.pair (.int .i64) (.pair (.int .i64) (.int .i64)))))))) (S := fun xs => slices_Clone_Pay k xs) (unpack := up_slices_Clone_Pay) (A := A_slices_Clone_Pay) (k := k) (pre := 1000) (na := 0) (E := E_slices_Clone_Pay) E_slices_Clone_Pay_ok E_slices_Clone_Pay_local mixed_orders (f := 100) (fn := Proofs.Try.f100) (by kernel_rfl) (body_loops (loopsOK_none (by kernel_rfl))) (enters (fn := Proofs.Try.f100) (by kernel_rfl) (by kernel_rfl) (by kernel_rfl)) (fun _ => rfl) (fun x hx => (slices_Clone_Pay_nil k).trans hx) (fun xs x hx => (slices_Clone_Pay_ev k xs).trans hx) hy
theorem R_slices_Clone_Pay_local : EntryLocal R_slices_Clone_Pay.2 := entry_local (S := fun k (d : AD as_slices_Clone_Pay) => slices_Clone_Pay k d.1)

/-! ### slices.Delete[[]giro/api.Pay,giro/api.Pay] -/
noncomputable def E_slices_Delete_Pay : Env := ⟨Proofs.Try.prog, fun _ => false, sumsOf []⟩
def A_slices_Delete_Pay : Notes := ⟨[], []⟩
theorem E_slices_Delete_Pay_ok : EnvOK E_slices_Delete_Pay := ⟨eqOK_none, sumsOf_ok (List.forall_mem_nil _)⟩
theorem E_slices_Delete_Pay_local : SumsLocal E_slices_Delete_Pay.sums := sumsOf_local (List.forall_mem_nil _)
def as_slices_Delete_Pay : List AX := [.c (.own (.pair (.int .i64) (.pair (.int .i64) (.pair (.int .i64) (.pair (.int .i64) (.pair (.int .i64) (.pair (.int .i64) (.int .i64)))))))), .c (.p (.int .i64)), .c (.p (.int .i64))]
def rs_slices_Delete_Pay : RS := .c (.own (.pair (.int .i64) (.pair (.int .i64) (.pair (.int .i64) (.pair (.int .i64) (.pair (.int .i64) (.pair (.int .i64) (.int .i64))))))))
def os_slices_Delete_Pay : List (List RC) := []
def pk_slices_Delete_Pay : List (Int × Int × Int × Int × Int × Int × Int) → RL (rs_slices_Delete_Pay.cells ++ os_slices_Delete_Pay.flatten) := fun x => (x, ())
def up_slices_Delete_Pay : RL (rs_slices_Delete_Pay.cells ++ os_slices_Delete_Pay.flatten) → List (Int × Int × Int × Int × Int × Int × Int) := fun d => d.1
def R_slices_Delete_Pay : Nat × Entry := (99, fun k nm args h => entryX as_slices_Delete_Pay rs_slices_Delete_Pay os_slices_Delete_Pay (fun d => slices_Delete_Pay k d.1 d.2.1 d.2.2.1) pk_slices_Delete_Pay nm args h)
theorem slices_Delete_Pay_ev (k : Nat) (d : XD as_slices_Delete_Pay) : evF E_slices_Delete_Pay A_slices_Delete_Pay k 1000 0 Proofs.Try.f99 (absArgsX as_slices_Delete_Pay d).1 (absArgsX as_slices_Delete_Pay d).2 (outXM as_slices_Delete_Pay rs_slices_Delete_Pay os_slices_Delete_Pay up_slices_Delete_Pay) = slices_Delete_Pay k d.1 d.2.1 d.2.2.1 := by
  obtain ⟨_, _, _, _⟩ := d
  kernel_rfl
theorem R_slices_Delete_Pay_ok : EntryOK Proofs.Try.prog R_slices_Delete_Pay := fun k _ _ _ _ _ hy =>
  entryX_sound (unpack := up_slices_Delete_Pay) (A := A_slices_Delete_Pay) (k := k) (pre := 1000) (na := 0) (E := E_slices_Delete_Pay) E_slices_Delete_Pay_ok E_slices_Delete_Pay_local mixed_orders (f := 99) (fn := Proofs.Try.f99) (by kernel_rfl) (body_loops (loopsOK_none (by kernel_rfl))) (enters (fn := Proofs.Try.f99) (by kernel_rfl) (by kernel_rfl) (by kernel_rfl)) (fun _ => rfl) (by kernel_rfl) (slices_Delete_Pay_ev k) hy
theorem R_slices_Delete_Pay_local : EntryLocal R_slices_Delete_Pay.2 := entryX_local (S := fun k (d : XD as_slices_Delete_Pay) => slices_Delete_Pay k d.1 d.2.1 d.2.2.1)

end Go.Ab.Gi
