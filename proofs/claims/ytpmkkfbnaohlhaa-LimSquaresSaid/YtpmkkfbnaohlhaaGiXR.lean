/- The shallow functions are what the program does, printed (abprint.py). -/
import Derived.Test.YtpmkkfbnaohlhaaGiXS
import Derived.Test.YtpmkkfbnaohlhaaProg
set_option linter.unusedVariables false
set_option maxRecDepth 100000
namespace Go.Ab.Gi

theorem mixed_orders : Proofs.Try.prog.follows .mixedOrders = true := by kernel_rfl

/-! ### giro/lim.isSize -/
noncomputable def E_lim_isSize : Env := ⟨Proofs.Try.prog, fun _ => false, sumsOf []⟩
def A_lim_isSize : Notes := ⟨[], []⟩
theorem E_lim_isSize_ok : EnvOK E_lim_isSize := ⟨eqOK_none, sumsOf_ok (List.forall_mem_nil _)⟩
theorem E_lim_isSize_local : SumsLocal E_lim_isSize.sums := sumsOf_local (List.forall_mem_nil _)
def as_lim_isSize : List AS := [.c (.int .i64)]
def rs_lim_isSize : RS := .c (.bool)
def pk_lim_isSize : Bool → RL rs_lim_isSize.cells := fun x => (x, ())
def up_lim_isSize : RL rs_lim_isSize.cells → Bool := fun d => d.1
def R_lim_isSize : Nat × Entry := (68, fun k nm args h => entry as_lim_isSize rs_lim_isSize (fun d => lim_isSize k d.1) pk_lim_isSize nm args h)
theorem lim_isSize_ev (k : Nat) (d : AD as_lim_isSize) : evF E_lim_isSize A_lim_isSize k 1000 0 Proofs.Try.f68 (absArgs as_lim_isSize d).1 (absArgs as_lim_isSize d).2 (outM rs_lim_isSize up_lim_isSize) = lim_isSize k d.1 := by
  obtain ⟨_, _⟩ := d
  kernel_rfl
theorem R_lim_isSize_ok : EntryOK Proofs.Try.prog R_lim_isSize := fun k _ _ _ _ _ hy =>
  entry_sound (unpack := up_lim_isSize) (A := A_lim_isSize) (k := k) (pre := 1000) (na := 0) (E := E_lim_isSize) E_lim_isSize_ok E_lim_isSize_local mixed_orders (f := 68) (fn := Proofs.Try.f68) (by kernel_rfl) (body_loops (loopsOK_none (by kernel_rfl))) (enters (fn := Proofs.Try.f68) (by kernel_rfl) (by kernel_rfl) (by kernel_rfl)) (fun _ => rfl) (lim_isSize_ev k) hy
theorem R_lim_isSize_local : EntryLocal R_lim_isSize.2 := entry_local (S := fun k (d : AD as_lim_isSize) => lim_isSize k d.1)

/-! ### giro/lim.Row -/
noncomputable def E_lim_Row : Env := ⟨Proofs.Try.prog, fun _ => false, sumsOf [R_lim_isSize]⟩
def I_lim_Row_L0 : Spec := ⟨[(1, .c (.int .i64)), (5, .c (.lit (.osl 1001000 none))), (13, .c (.int .i64)), (14, .c (.int .i64))], [.arr true (.int .i64)], []⟩
def O_lim_Row_L0 : List (Ex × Spec) := [(.exit 0, ⟨[(5, .c (.lit (.osl 1001000 none)))], [.arr true (.int .i64)], []⟩)]
def T_lim_Row_L0 : OutD O_lim_Row_L0 → List Int := fun d => d.2.1
def e_lim_Row_L0 (base : Nat) (x : List Int) (R : Type) (K : Ex → St → Option R) : Option R := K (.exit 0) (stOf base ⟨[(5, .c (.lit (.osl 1001000 none)))], [.arr true (.int .i64)], []⟩ (((), ()), (x, ())))
def L_lim_Row_L0 : LoopSum := ⟨I_lim_Row_L0, O_lim_Row_L0, List Int, fun k d => lim_Row_L0 k k d.1.1.1 d.1.2.2.1.1 d.1.2.2.2.1.1 d.2.1, e_lim_Row_L0⟩
def A_lim_Row : Notes := ⟨[], [(5, L_lim_Row_L0)]⟩
theorem E_lim_Row_ok : EnvOK E_lim_Row := ⟨eqOK_none, sumsOf_ok (List.forall_mem_cons.2 ⟨R_lim_isSize_ok, List.forall_mem_nil _⟩)⟩
theorem E_lim_Row_local : SumsLocal E_lim_Row.sums := sumsOf_local (List.forall_mem_cons.2 ⟨R_lim_isSize_local, List.forall_mem_nil _⟩)
theorem lim_Row_L0_step (k : Nat) (rec : Int → Int → Int → List Int → Option (List Int)) (d : I_lim_Row_L0.den) : lim_Row_L0b k rec d.1.1.1 d.1.2.2.1.1 d.1.2.2.2.1.1 d.2.1 = evC E_lim_Row A_lim_Row k 1000 0 23 (loopAt (bodyOf Proofs.Try.f27) 0) (stOf (1000 + loopBase) I_lim_Row_L0 d) (roundK 1000 I_lim_Row_L0 O_lim_Row_L0 T_lim_Row_L0 fun d => rec d.1.1.1 d.1.2.2.1.1 d.1.2.2.2.1.1 d.2.1) := by
  obtain ⟨⟨⟨_, _⟩, _, ⟨_, _⟩, ⟨_, _⟩, _⟩, ⟨_, _⟩⟩ := d
  kernel_rfl
theorem lim_Row_L0_ok : LoopOK Proofs.Try.prog 1000 0 23 (loopAt (bodyOf Proofs.Try.f27) 0) L_lim_Row_L0 :=
  loop_sound (A := A_lim_Row) (inS := I_lim_Row_L0) (outs := O_lim_Row_L0) E_lim_Row_ok E_lim_Row_local mixed_orders (loopsOK_none (by kernel_rfl)) T_lim_Row_L0 e_lim_Row_L0 (fun _ _ _ => rfl) (fun k n d => lim_Row_L0 k n d.1.1.1 d.1.2.2.1.1 d.1.2.2.2.1.1 d.2.1) (fun _ _ => rfl) (fun k n d => lim_Row_L0_step k (lim_Row_L0 k n) d)
def as_lim_Row : List AS := [.c (.int .i64), .c (.int .i64)]
def rs_lim_Row : RS := .c (.own (.int .i64))
def pk_lim_Row : List Int → RL rs_lim_Row.cells := fun x => (x, ())
def up_lim_Row : RL rs_lim_Row.cells → List Int := fun d => d.1
def R_lim_Row : Nat × Entry := (27, fun k nm args h => entry as_lim_Row rs_lim_Row (fun d => lim_Row k d.1 d.2.1) pk_lim_Row nm args h)
theorem lim_Row_ev (k : Nat) (d : AD as_lim_Row) : evF E_lim_Row A_lim_Row k 1000 0 Proofs.Try.f27 (absArgs as_lim_Row d).1 (absArgs as_lim_Row d).2 (outM rs_lim_Row up_lim_Row) = lim_Row k d.1 d.2.1 := by
  obtain ⟨_, _, _⟩ := d
  kernel_rfl
theorem R_lim_Row_ok : EntryOK Proofs.Try.prog R_lim_Row := fun k _ _ _ _ _ hy =>
  entry_sound (unpack := up_lim_Row) (A := A_lim_Row) (k := k) (pre := 1000) (na := 0) (E := E_lim_Row) E_lim_Row_ok E_lim_Row_local mixed_orders (f := 27) (fn := Proofs.Try.f27) (by kernel_rfl) (body_loops (loopsOK_of (n := 1) (by kernel_rfl) fun i hi => match i, hi with | 0, _ => ⟨L_lim_Row_L0, by kernel_rfl, lim_Row_L0_ok⟩ | i + 1, hi => absurd hi (by omega))) (enters (fn := Proofs.Try.f27) (by kernel_rfl) (by kernel_rfl) (by kernel_rfl)) (fun _ => rfl) (lim_Row_ev k) hy
theorem R_lim_Row_local : EntryLocal R_lim_Row.2 := entry_local (S := fun k (d : AD as_lim_Row) => lim_Row k d.1 d.2.1)

/-! ### giro/lim.Square -/
noncomputable def E_lim_Square : Env := ⟨Proofs.Try.prog, fun _ => false, sumsOf [R_lim_isSize, R_lim_Row]⟩
def I_lim_Square_L0 : Spec := ⟨[(0, .c (.int .i64)), (1, .c (.int .i64)), (5, .c (.lit (.osl 1001000 none))), (13, .c (.int .i64)), (14, .c (.int .i64))], [.mat], []⟩
def O_lim_Square_L0 : List (Ex × Spec) := [(.exit 0, ⟨[(5, .c (.lit (.osl 1001000 none)))], [.mat], []⟩)]
def T_lim_Square_L0 : OutD O_lim_Square_L0 → List (List Int) := fun d => d.2.1
def e_lim_Square_L0 (base : Nat) (x : List (List Int)) (R : Type) (K : Ex → St → Option R) : Option R := K (.exit 0) (stOf base ⟨[(5, .c (.lit (.osl 1001000 none)))], [.mat], []⟩ (((), ()), (x, ())))
def L_lim_Square_L0 : LoopSum := ⟨I_lim_Square_L0, O_lim_Square_L0, List (List Int), fun k d => lim_Square_L0 k k d.1.1.1 d.1.2.1.1 d.1.2.2.2.1.1 d.1.2.2.2.2.1.1 d.2.1, e_lim_Square_L0⟩
def A_lim_Square : Notes := ⟨[11], [(5, L_lim_Square_L0)]⟩
theorem E_lim_Square_ok : EnvOK E_lim_Square := ⟨eqOK_none, sumsOf_ok (List.forall_mem_cons.2 ⟨R_lim_isSize_ok, List.forall_mem_cons.2 ⟨R_lim_Row_ok, List.forall_mem_nil _⟩⟩)⟩
theorem E_lim_Square_local : SumsLocal E_lim_Square.sums := sumsOf_local (List.forall_mem_cons.2 ⟨R_lim_isSize_local, List.forall_mem_cons.2 ⟨R_lim_Row_local, List.forall_mem_nil _⟩⟩)
theorem lim_Square_L0_step (k : Nat) (rec : Int → Int → Int → Int → List (List Int) → Option (List (List Int))) (d : I_lim_Square_L0.den) : lim_Square_L0b k rec d.1.1.1 d.1.2.1.1 d.1.2.2.2.1.1 d.1.2.2.2.2.1.1 d.2.1 = evC E_lim_Square A_lim_Square k 1000 0 25 (loopAt (bodyOf Proofs.Try.f24) 0) (stOf (1000 + loopBase) I_lim_Square_L0 d) (roundK 1000 I_lim_Square_L0 O_lim_Square_L0 T_lim_Square_L0 fun d => rec d.1.1.1 d.1.2.1.1 d.1.2.2.2.1.1 d.1.2.2.2.2.1.1 d.2.1) := by
  obtain ⟨⟨⟨_, _⟩, ⟨_, _⟩, _, ⟨_, _⟩, ⟨_, _⟩, _⟩, ⟨_, _⟩⟩ := d
  kernel_rfl
theorem lim_Square_L0_ok : LoopOK Proofs.Try.prog 1000 0 25 (loopAt (bodyOf Proofs.Try.f24) 0) L_lim_Square_L0 :=
  loop_sound (A := A_lim_Square) (inS := I_lim_Square_L0) (outs := O_lim_Square_L0) E_lim_Square_ok E_lim_Square_local mixed_orders (loopsOK_none (by kernel_rfl)) T_lim_Square_L0 e_lim_Square_L0 (fun _ _ _ => rfl) (fun k n d => lim_Square_L0 k n d.1.1.1 d.1.2.1.1 d.1.2.2.2.1.1 d.1.2.2.2.2.1.1 d.2.1) (fun _ _ => rfl) (fun k n d => lim_Square_L0_step k (lim_Square_L0 k n) d)
def as_lim_Square : List AS := [.c (.int .i64), .c (.int .i64)]
def rs_lim_Square : RS := .c (.mat)
def pk_lim_Square : List (List Int) → RL rs_lim_Square.cells := fun x => (x, ())
def up_lim_Square : RL rs_lim_Square.cells → List (List Int) := fun d => d.1
def R_lim_Square : Nat × Entry := (24, fun k nm args h => entry as_lim_Square rs_lim_Square (fun d => lim_Square k d.1 d.2.1) pk_lim_Square nm args h)
theorem lim_Square_ev (k : Nat) (d : AD as_lim_Square) : evF E_lim_Square A_lim_Square k 1000 0 Proofs.Try.f24 (absArgs as_lim_Square d).1 (absArgs as_lim_Square d).2 (outM rs_lim_Square up_lim_Square) = lim_Square k d.1 d.2.1 := by
  obtain ⟨_, _, _⟩ := d
  kernel_rfl
theorem R_lim_Square_ok : EntryOK Proofs.Try.prog R_lim_Square := fun k _ _ _ _ _ hy =>
  entry_sound (unpack := up_lim_Square) (A := A_lim_Square) (k := k) (pre := 1000) (na := 0) (E := E_lim_Square) E_lim_Square_ok E_lim_Square_local mixed_orders (f := 24) (fn := Proofs.Try.f24) (by kernel_rfl) (body_loops (loopsOK_of (n := 1) (by kernel_rfl) fun i hi => match i, hi with | 0, _ => ⟨L_lim_Square_L0, by kernel_rfl, lim_Square_L0_ok⟩ | i + 1, hi => absurd hi (by omega))) (enters (fn := Proofs.Try.f24) (by kernel_rfl) (by kernel_rfl) (by kernel_rfl)) (fun _ => rfl) (lim_Square_ev k) hy
theorem R_lim_Square_local : EntryLocal R_lim_Square.2 := entry_local (S := fun k (d : AD as_lim_Square) => lim_Square k d.1 d.2.1)

/-! ### giro/giroref10.Row -/
noncomputable def E_giroref10_Row : Env := ⟨Proofs.Try.prog, fun _ => false, sumsOf []⟩
def I_giroref10_Row_L0 : Spec := ⟨[(0, .c (.int .i64)), (1, .c (.int .i64)), (5, .c (.lit (.osl 1001000 none))), (6, .c (.int .i64))], [.arr true (.int .i64)], []⟩
def O_giroref10_Row_L0 : List (Ex × Spec) := [(.exit 0, ⟨[(5, .c (.lit (.osl 1001000 none)))], [.arr true (.int .i64)], []⟩)]
def T_giroref10_Row_L0 : OutD O_giroref10_Row_L0 → List Int := fun d => d.2.1
def e_giroref10_Row_L0 (base : Nat) (x : List Int) (R : Type) (K : Ex → St → Option R) : Option R := K (.exit 0) (stOf base ⟨[(5, .c (.lit (.osl 1001000 none)))], [.arr true (.int .i64)], []⟩ (((), ()), (x, ())))
def L_giroref10_Row_L0 : LoopSum := ⟨I_giroref10_Row_L0, O_giroref10_Row_L0, List Int, fun k d => giroref10_Row_L0 k k d.1.1.1 d.1.2.1.1 d.1.2.2.2.1.1 d.2.1, e_giroref10_Row_L0⟩
def A_giroref10_Row : Notes := ⟨[], [(5, L_giroref10_Row_L0)]⟩
theorem E_giroref10_Row_ok : EnvOK E_giroref10_Row := ⟨eqOK_none, sumsOf_ok (List.forall_mem_nil _)⟩
theorem E_giroref10_Row_local : SumsLocal E_giroref10_Row.sums := sumsOf_local (List.forall_mem_nil _)
theorem giroref10_Row_L0_step (k : Nat) (rec : Int → Int → Int → List Int → Option (List Int)) (d : I_giroref10_Row_L0.den) : giroref10_Row_L0b k rec d.1.1.1 d.1.2.1.1 d.1.2.2.2.1.1 d.2.1 = evC E_giroref10_Row A_giroref10_Row k 1000 0 25 (loopAt (bodyOf Proofs.Try.f69) 0) (stOf (1000 + loopBase) I_giroref10_Row_L0 d) (roundK 1000 I_giroref10_Row_L0 O_giroref10_Row_L0 T_giroref10_Row_L0 fun d => rec d.1.1.1 d.1.2.1.1 d.1.2.2.2.1.1 d.2.1) := by
  obtain ⟨⟨⟨_, _⟩, ⟨_, _⟩, _, ⟨_, _⟩, _⟩, ⟨_, _⟩⟩ := d
  kernel_rfl
theorem giroref10_Row_L0_ok : LoopOK Proofs.Try.prog 1000 0 25 (loopAt (bodyOf Proofs.Try.f69) 0) L_giroref10_Row_L0 :=
  loop_sound (A := A_giroref10_Row) (inS := I_giroref10_Row_L0) (outs := O_giroref10_Row_L0) E_giroref10_Row_ok E_giroref10_Row_local mixed_orders (loopsOK_none (by kernel_rfl)) T_giroref10_Row_L0 e_giroref10_Row_L0 (fun _ _ _ => rfl) (fun k n d => giroref10_Row_L0 k n d.1.1.1 d.1.2.1.1 d.1.2.2.2.1.1 d.2.1) (fun _ _ => rfl) (fun k n d => giroref10_Row_L0_step k (giroref10_Row_L0 k n) d)
def as_giroref10_Row : List AS := [.c (.int .i64), .c (.int .i64)]
def rs_giroref10_Row : RS := .c (.own (.int .i64))
def pk_giroref10_Row : List Int → RL rs_giroref10_Row.cells := fun x => (x, ())
def up_giroref10_Row : RL rs_giroref10_Row.cells → List Int := fun d => d.1
def R_giroref10_Row : Nat × Entry := (69, fun k nm args h => entry as_giroref10_Row rs_giroref10_Row (fun d => giroref10_Row k d.1 d.2.1) pk_giroref10_Row nm args h)
theorem giroref10_Row_ev (k : Nat) (d : AD as_giroref10_Row) : evF E_giroref10_Row A_giroref10_Row k 1000 0 Proofs.Try.f69 (absArgs as_giroref10_Row d).1 (absArgs as_giroref10_Row d).2 (outM rs_giroref10_Row up_giroref10_Row) = giroref10_Row k d.1 d.2.1 := by
  obtain ⟨_, _, _⟩ := d
  kernel_rfl
theorem R_giroref10_Row_ok : EntryOK Proofs.Try.prog R_giroref10_Row := fun k _ _ _ _ _ hy =>
  entry_sound (unpack := up_giroref10_Row) (A := A_giroref10_Row) (k := k) (pre := 1000) (na := 0) (E := E_giroref10_Row) E_giroref10_Row_ok E_giroref10_Row_local mixed_orders (f := 69) (fn := Proofs.Try.f69) (by kernel_rfl) (body_loops (loopsOK_of (n := 1) (by kernel_rfl) fun i hi => match i, hi with | 0, _ => ⟨L_giroref10_Row_L0, by kernel_rfl, giroref10_Row_L0_ok⟩ | i + 1, hi => absurd hi (by omega))) (enters (fn := Proofs.Try.f69) (by kernel_rfl) (by kernel_rfl) (by kernel_rfl)) (fun _ => rfl) (giroref10_Row_ev k) hy
theorem R_giroref10_Row_local : EntryLocal R_giroref10_Row.2 := entry_local (S := fun k (d : AD as_giroref10_Row) => giroref10_Row k d.1 d.2.1)

/-! ### giro/giroref10.Square -/
noncomputable def E_giroref10_Square : Env := ⟨Proofs.Try.prog, fun _ => false, sumsOf [R_giroref10_Row]⟩
def I_giroref10_Square_L0 : Spec := ⟨[(0, .c (.int .i64)), (1, .c (.int .i64)), (5, .c (.lit (.osl 1001000 none))), (6, .c (.int .i64))], [.mat], [(5, none, (.sl (.int .i64)), true)]⟩
def O_giroref10_Square_L0 : List (Ex × Spec) := [(.exit 0, ⟨[(5, .c (.lit (.osl 1001000 none)))], [.mat], []⟩)]
def T_giroref10_Square_L0 : OutD O_giroref10_Square_L0 → List (List Int) := fun d => d.2.1
def e_giroref10_Square_L0 (base : Nat) (x : List (List Int)) (R : Type) (K : Ex → St → Option R) : Option R := K (.exit 0) (stOf base ⟨[(5, .c (.lit (.osl 1001000 none)))], [.mat], []⟩ (((), ()), (x, ())))
def L_giroref10_Square_L0 : LoopSum := ⟨I_giroref10_Square_L0, O_giroref10_Square_L0, List (List Int), fun k d => giroref10_Square_L0 k k d.1.1.1 d.1.2.1.1 d.1.2.2.2.1.1 d.2.1, e_giroref10_Square_L0⟩
def A_giroref10_Square : Notes := ⟨[22, 23], [(5, L_giroref10_Square_L0)]⟩
theorem E_giroref10_Square_ok : EnvOK E_giroref10_Square := ⟨eqOK_none, sumsOf_ok (List.forall_mem_cons.2 ⟨R_giroref10_Row_ok, List.forall_mem_nil _⟩)⟩
theorem E_giroref10_Square_local : SumsLocal E_giroref10_Square.sums := sumsOf_local (List.forall_mem_cons.2 ⟨R_giroref10_Row_local, List.forall_mem_nil _⟩)
theorem giroref10_Square_L0_step (k : Nat) (rec : Int → Int → Int → List (List Int) → Option (List (List Int))) (d : I_giroref10_Square_L0.den) : giroref10_Square_L0b k rec d.1.1.1 d.1.2.1.1 d.1.2.2.2.1.1 d.2.1 = evC E_giroref10_Square A_giroref10_Square k 1000 0 25 (loopAt (bodyOf Proofs.Try.f26) 0) (stOf (1000 + loopBase) I_giroref10_Square_L0 d) (roundK 1000 I_giroref10_Square_L0 O_giroref10_Square_L0 T_giroref10_Square_L0 fun d => rec d.1.1.1 d.1.2.1.1 d.1.2.2.2.1.1 d.2.1) := by
  obtain ⟨⟨⟨_, _⟩, ⟨_, _⟩, _, ⟨_, _⟩, _⟩, ⟨_, _⟩⟩ := d
  kernel_rfl
theorem giroref10_Square_L0_ok : LoopOK Proofs.Try.prog 1000 0 25 (loopAt (bodyOf Proofs.Try.f26) 0) L_giroref10_Square_L0 :=
  loop_sound (A := A_giroref10_Square) (inS := I_giroref10_Square_L0) (outs := O_giroref10_Square_L0) E_giroref10_Square_ok E_giroref10_Square_local mixed_orders (loopsOK_none (by kernel_rfl)) T_giroref10_Square_L0 e_giroref10_Square_L0 (fun _ _ _ => rfl) (fun k n d => giroref10_Square_L0 k n d.1.1.1 d.1.2.1.1 d.1.2.2.2.1.1 d.2.1) (fun _ _ => rfl) (fun k n d => giroref10_Square_L0_step k (giroref10_Square_L0 k n) d)
def as_giroref10_Square : List AS := [.c (.int .i64), .c (.int .i64)]
def rs_giroref10_Square : RS := .c (.mat)
def pk_giroref10_Square : List (List Int) → RL rs_giroref10_Square.cells := fun x => (x, ())
def up_giroref10_Square : RL rs_giroref10_Square.cells → List (List Int) := fun d => d.1
def R_giroref10_Square : Nat × Entry := (26, fun k nm args h => entry as_giroref10_Square rs_giroref10_Square (fun d => giroref10_Square k d.1 d.2.1) pk_giroref10_Square nm args h)
theorem giroref10_Square_ev (k : Nat) (d : AD as_giroref10_Square) : evF E_giroref10_Square A_giroref10_Square k 1000 0 Proofs.Try.f26 (absArgs as_giroref10_Square d).1 (absArgs as_giroref10_Square d).2 (outM rs_giroref10_Square up_giroref10_Square) = giroref10_Square k d.1 d.2.1 := by
  obtain ⟨_, _, _⟩ := d
  kernel_rfl
theorem R_giroref10_Square_ok : EntryOK Proofs.Try.prog R_giroref10_Square := fun k _ _ _ _ _ hy =>
  entry_sound (unpack := up_giroref10_Square) (A := A_giroref10_Square) (k := k) (pre := 1000) (na := 0) (E := E_giroref10_Square) E_giroref10_Square_ok E_giroref10_Square_local mixed_orders (f := 26) (fn := Proofs.Try.f26) (by kernel_rfl) (body_loops (loopsOK_of (n := 1) (by kernel_rfl) fun i hi => match i, hi with | 0, _ => ⟨L_giroref10_Square_L0, by kernel_rfl, giroref10_Square_L0_ok⟩ | i + 1, hi => absurd hi (by omega))) (enters (fn := Proofs.Try.f26) (by kernel_rfl) (by kernel_rfl) (by kernel_rfl)) (fun _ => rfl) (giroref10_Square_ev k) hy
theorem R_giroref10_Square_local : EntryLocal R_giroref10_Square.2 := entry_local (S := fun k (d : AD as_giroref10_Square) => giroref10_Square k d.1 d.2.1)

/-! ### giro/giroref2.Same -/
noncomputable def E_giroref2_Same : Env := ⟨Proofs.Try.prog, fun _ => false, sumsOf []⟩
def I_giroref2_Same_L0 : Spec := ⟨[(0, .c (.dat false (.int .i64))), (1, .c (.dat false (.int .i64))), (5, .c (.int .i64))], [], []⟩
def O_giroref2_Same_L0 : List (Ex × Spec) := [(.exit 0, ⟨[], [], []⟩), (.ret, ⟨[(4, .c (.bool))], [], []⟩)]
def T_giroref2_Same_L0 : OutD O_giroref2_Same_L0 → Unit ⊕ Bool
 | .inl d => .inl ()
 | .inr d => .inr d.1.1.1
def e_giroref2_Same_L0 (base : Nat) (x : Unit ⊕ Bool) (R : Type) (K : Ex → St → Option R) : Option R := match x with
 | .inl x => K (.exit 0) (stOf base ⟨[], [], []⟩ ((), ()))
 | .inr x => K .ret (stOf base ⟨[(4, .c (.bool))], [], []⟩ (((x, ()), ()), ()))
def L_giroref2_Same_L0 : LoopSum := ⟨I_giroref2_Same_L0, O_giroref2_Same_L0, Unit ⊕ Bool, fun k d => giroref2_Same_L0 k k d.1.1.1 d.1.2.1.1 d.1.2.2.1.1, e_giroref2_Same_L0⟩
def A_giroref2_Same : Notes := ⟨[], [(4, L_giroref2_Same_L0)]⟩
theorem E_giroref2_Same_ok : EnvOK E_giroref2_Same := ⟨eqOK_none, sumsOf_ok (List.forall_mem_nil _)⟩
theorem E_giroref2_Same_local : SumsLocal E_giroref2_Same.sums := sumsOf_local (List.forall_mem_nil _)
theorem giroref2_Same_L0_step (k : Nat) (rec : List Int → List Int → Int → Option (Unit ⊕ Bool)) (d : I_giroref2_Same_L0.den) : giroref2_Same_L0b k rec d.1.1.1 d.1.2.1.1 d.1.2.2.1.1 = evC E_giroref2_Same A_giroref2_Same k 1000 0 26 (loopAt (bodyOf Proofs.Try.f66) 0) (stOf (1000 + loopBase) I_giroref2_Same_L0 d) (roundK 1000 I_giroref2_Same_L0 O_giroref2_Same_L0 T_giroref2_Same_L0 fun d => rec d.1.1.1 d.1.2.1.1 d.1.2.2.1.1) := by
  obtain ⟨⟨⟨_, _⟩, ⟨_, _⟩, ⟨_, _⟩, _⟩, _⟩ := d
  kernel_rfl
theorem giroref2_Same_L0_ok : LoopOK Proofs.Try.prog 1000 0 26 (loopAt (bodyOf Proofs.Try.f66) 0) L_giroref2_Same_L0 :=
  loop_sound (A := A_giroref2_Same) (inS := I_giroref2_Same_L0) (outs := O_giroref2_Same_L0) E_giroref2_Same_ok E_giroref2_Same_local mixed_orders (loopsOK_none (by kernel_rfl)) T_giroref2_Same_L0 e_giroref2_Same_L0 (by intro o R K; rcases o with o | o <;> rfl) (fun k n d => giroref2_Same_L0 k n d.1.1.1 d.1.2.1.1 d.1.2.2.1.1) (fun _ _ => rfl) (fun k n d => giroref2_Same_L0_step k (giroref2_Same_L0 k n) d)
def as_giroref2_Same : List AS := [.c (.dat false (.int .i64)), .c (.dat false (.int .i64))]
def rs_giroref2_Same : RS := .c (.bool)
def pk_giroref2_Same : Bool → RL rs_giroref2_Same.cells := fun x => (x, ())
def up_giroref2_Same : RL rs_giroref2_Same.cells → Bool := fun d => d.1
def R_giroref2_Same : Nat × Entry := (66, fun k nm args h => entry as_giroref2_Same rs_giroref2_Same (fun d => giroref2_Same k d.1 d.2.1) pk_giroref2_Same nm args h)
theorem giroref2_Same_ev (k : Nat) (d : AD as_giroref2_Same) : evF E_giroref2_Same A_giroref2_Same k 1000 0 Proofs.Try.f66 (absArgs as_giroref2_Same d).1 (absArgs as_giroref2_Same d).2 (outM rs_giroref2_Same up_giroref2_Same) = giroref2_Same k d.1 d.2.1 := by
  obtain ⟨_, _, _⟩ := d
  kernel_rfl
theorem R_giroref2_Same_ok : EntryOK Proofs.Try.prog R_giroref2_Same := fun k _ _ _ _ _ hy =>
  entry_sound (unpack := up_giroref2_Same) (A := A_giroref2_Same) (k := k) (pre := 1000) (na := 0) (E := E_giroref2_Same) E_giroref2_Same_ok E_giroref2_Same_local mixed_orders (f := 66) (fn := Proofs.Try.f66) (by kernel_rfl) (body_loops (loopsOK_of (n := 1) (by kernel_rfl) fun i hi => match i, hi with | 0, _ => ⟨L_giroref2_Same_L0, by kernel_rfl, giroref2_Same_L0_ok⟩ | i + 1, hi => absurd hi (by omega))) (enters (fn := Proofs.Try.f66) (by kernel_rfl) (by kernel_rfl) (by kernel_rfl)) (fun _ => rfl) (giroref2_Same_ev k) hy
theorem R_giroref2_Same_local : EntryLocal R_giroref2_Same.2 := entry_local (S := fun k (d : AD as_giroref2_Same) => giroref2_Same k d.1 d.2.1)

/-! ### giro/giroref10.Rows -/
noncomputable def E_giroref10_Rows : Env := ⟨Proofs.Try.prog, fun _ => false, sumsOf [R_giroref2_Same]⟩
def I_giroref10_Rows_L0 : Spec := ⟨[(0, .c (.dat false (.sl (.int .i64)))), (1, .c (.dat false (.sl (.int .i64)))), (5, .c (.int .i64))], [], []⟩
def O_giroref10_Rows_L0 : List (Ex × Spec) := [(.exit 0, ⟨[], [], []⟩), (.ret, ⟨[(4, .c (.bool))], [], []⟩)]
def T_giroref10_Rows_L0 : OutD O_giroref10_Rows_L0 → Unit ⊕ Bool
 | .inl d => .inl ()
 | .inr d => .inr d.1.1.1
def e_giroref10_Rows_L0 (base : Nat) (x : Unit ⊕ Bool) (R : Type) (K : Ex → St → Option R) : Option R := match x with
 | .inl x => K (.exit 0) (stOf base ⟨[], [], []⟩ ((), ()))
 | .inr x => K .ret (stOf base ⟨[(4, .c (.bool))], [], []⟩ (((x, ()), ()), ()))
def L_giroref10_Rows_L0 : LoopSum := ⟨I_giroref10_Rows_L0, O_giroref10_Rows_L0, Unit ⊕ Bool, fun k d => giroref10_Rows_L0 k k d.1.1.1 d.1.2.1.1 d.1.2.2.1.1, e_giroref10_Rows_L0⟩
def A_giroref10_Rows : Notes := ⟨[], [(4, L_giroref10_Rows_L0)]⟩
theorem E_giroref10_Rows_ok : EnvOK E_giroref10_Rows := ⟨eqOK_none, sumsOf_ok (List.forall_mem_cons.2 ⟨R_giroref2_Same_ok, List.forall_mem_nil _⟩)⟩
theorem E_giroref10_Rows_local : SumsLocal E_giroref10_Rows.sums := sumsOf_local (List.forall_mem_cons.2 ⟨R_giroref2_Same_local, List.forall_mem_nil _⟩)
theorem giroref10_Rows_L0_step (k : Nat) (rec : List (List Int) → List (List Int) → Int → Option (Unit ⊕ Bool)) (d : I_giroref10_Rows_L0.den) : giroref10_Rows_L0b k rec d.1.1.1 d.1.2.1.1 d.1.2.2.1.1 = evC E_giroref10_Rows A_giroref10_Rows k 1000 0 27 (loopAt (bodyOf Proofs.Try.f25) 0) (stOf (1000 + loopBase) I_giroref10_Rows_L0 d) (roundK 1000 I_giroref10_Rows_L0 O_giroref10_Rows_L0 T_giroref10_Rows_L0 fun d => rec d.1.1.1 d.1.2.1.1 d.1.2.2.1.1) := by
  obtain ⟨⟨⟨_, _⟩, ⟨_, _⟩, ⟨_, _⟩, _⟩, _⟩ := d
  kernel_rfl
theorem giroref10_Rows_L0_ok : LoopOK Proofs.Try.prog 1000 0 27 (loopAt (bodyOf Proofs.Try.f25) 0) L_giroref10_Rows_L0 :=
  loop_sound (A := A_giroref10_Rows) (inS := I_giroref10_Rows_L0) (outs := O_giroref10_Rows_L0) E_giroref10_Rows_ok E_giroref10_Rows_local mixed_orders (loopsOK_none (by kernel_rfl)) T_giroref10_Rows_L0 e_giroref10_Rows_L0 (by intro o R K; rcases o with o | o <;> rfl) (fun k n d => giroref10_Rows_L0 k n d.1.1.1 d.1.2.1.1 d.1.2.2.1.1) (fun _ _ => rfl) (fun k n d => giroref10_Rows_L0_step k (giroref10_Rows_L0 k n) d)
def as_giroref10_Rows : List AS := [.c (.dat false (.sl (.int .i64))), .c (.dat false (.sl (.int .i64)))]
def rs_giroref10_Rows : RS := .c (.bool)
def pk_giroref10_Rows : Bool → RL rs_giroref10_Rows.cells := fun x => (x, ())
def up_giroref10_Rows : RL rs_giroref10_Rows.cells → Bool := fun d => d.1
def R_giroref10_Rows : Nat × Entry := (25, fun k nm args h => entry as_giroref10_Rows rs_giroref10_Rows (fun d => giroref10_Rows k d.1 d.2.1) pk_giroref10_Rows nm args h)
theorem giroref10_Rows_ev (k : Nat) (d : AD as_giroref10_Rows) : evF E_giroref10_Rows A_giroref10_Rows k 1000 0 Proofs.Try.f25 (absArgs as_giroref10_Rows d).1 (absArgs as_giroref10_Rows d).2 (outM rs_giroref10_Rows up_giroref10_Rows) = giroref10_Rows k d.1 d.2.1 := by
  obtain ⟨_, _, _⟩ := d
  kernel_rfl
theorem R_giroref10_Rows_ok : EntryOK Proofs.Try.prog R_giroref10_Rows := fun k _ _ _ _ _ hy =>
  entry_sound (unpack := up_giroref10_Rows) (A := A_giroref10_Rows) (k := k) (pre := 1000) (na := 0) (E := E_giroref10_Rows) E_giroref10_Rows_ok E_giroref10_Rows_local mixed_orders (f := 25) (fn := Proofs.Try.f25) (by kernel_rfl) (body_loops (loopsOK_of (n := 1) (by kernel_rfl) fun i hi => match i, hi with | 0, _ => ⟨L_giroref10_Rows_L0, by kernel_rfl, giroref10_Rows_L0_ok⟩ | i + 1, hi => absurd hi (by omega))) (enters (fn := Proofs.Try.f25) (by kernel_rfl) (by kernel_rfl) (by kernel_rfl)) (fun _ => rfl) (giroref10_Rows_ev k) hy
theorem R_giroref10_Rows_local : EntryLocal R_giroref10_Rows.2 := entry_local (S := fun k (d : AD as_giroref10_Rows) => giroref10_Rows k d.1 d.2.1)

/-! ### giro/girolaw10.some -/
noncomputable def E_girolaw10_some : Env := ⟨Proofs.Try.prog, fun _ => false, sumsOf []⟩
def I_girolaw10_some_L0 : Spec := ⟨[(0, .c (.dat false (.int .i64))), (1, .c (.int .i64)), (4, .c (.lit (.ptr 1001000 0))), (5, .c (.lit (.ptr 1001001 0))), (6, .c (.int .i64))], [.box true [.lit .nsl, .lit .nsl, .lit .nsl, .lit .nsl], .box true [.lit (.osl 1001002 none), .lit (.osl 1001003 none), .lit (.osl 1001004 none), .lit (.osl 1001005 none)], .arr true (.pair (.int .i64) (.pair (.int .i64) (.int .i64))), .mat, .arr true (.int .i64), .mat], [(5, some 0, (.pair (.int .i64) (.pair (.int .i64) (.int .i64))), false)]⟩
def O_girolaw10_some_L0 : List (Ex × Spec) := [(.exit 0, ⟨[(1, .c (.int .i64)), (4, .c (.lit (.ptr 1001000 0))), (5, .c (.lit (.ptr 1001001 0)))], [.box true [.lit .nsl, .lit .nsl, .lit .nsl, .lit .nsl], .box true [.lit (.osl 1001002 none), .lit (.osl 1001003 none), .lit (.osl 1001004 none), .lit (.osl 1001005 none)], .arr true (.pair (.int .i64) (.pair (.int .i64) (.int .i64))), .mat, .arr true (.int .i64), .mat], []⟩)]
def T_girolaw10_some_L0 : OutD O_girolaw10_some_L0 → Int × (List (Int × Int × Int)) × (List (List Int)) × (List Int) × (List (List Int)) := fun d => (d.1.1.1, d.2.2.2.1, d.2.2.2.2.1, d.2.2.2.2.2.1, d.2.2.2.2.2.2.1)
def e_girolaw10_some_L0 (base : Nat) (x : Int × (List (Int × Int × Int)) × (List (List Int)) × (List Int) × (List (List Int))) (R : Type) (K : Ex → St → Option R) : Option R := K (.exit 0) (stOf base ⟨[(1, .c (.int .i64)), (4, .c (.lit (.ptr 1001000 0))), (5, .c (.lit (.ptr 1001001 0)))], [.box true [.lit .nsl, .lit .nsl, .lit .nsl, .lit .nsl], .box true [.lit (.osl 1001002 none), .lit (.osl 1001003 none), .lit (.osl 1001004 none), .lit (.osl 1001005 none)], .arr true (.pair (.int .i64) (.pair (.int .i64) (.int .i64))), .mat, .arr true (.int .i64), .mat], []⟩ (((x.1, ()), (), (), ()), ((), (), x.2.1, x.2.2.1, x.2.2.2.1, x.2.2.2.2, ())))
def L_girolaw10_some_L0 : LoopSum := ⟨I_girolaw10_some_L0, O_girolaw10_some_L0, Int × (List (Int × Int × Int)) × (List (List Int)) × (List Int) × (List (List Int)), fun k d => girolaw10_some_L0 k k d.1.1.1 d.1.2.1.1 d.1.2.2.2.2.1.1 d.2.2.2.1 d.2.2.2.2.1 d.2.2.2.2.2.1 d.2.2.2.2.2.2.1, e_girolaw10_some_L0⟩
def A_girolaw10_some : Notes := ⟨[11, 16], [(3, L_girolaw10_some_L0)]⟩
theorem E_girolaw10_some_ok : EnvOK E_girolaw10_some := ⟨eqOK_none, sumsOf_ok (List.forall_mem_nil _)⟩
theorem E_girolaw10_some_local : SumsLocal E_girolaw10_some.sums := sumsOf_local (List.forall_mem_nil _)
theorem girolaw10_some_L0_step (k : Nat) (rec : List Int → Int → Int → List (Int × Int × Int) → List (List Int) → List Int → List (List Int) → Option (Int × (List (Int × Int × Int)) × (List (List Int)) × (List Int) × (List (List Int)))) (d : I_girolaw10_some_L0.den) : girolaw10_some_L0b k rec d.1.1.1 d.1.2.1.1 d.1.2.2.2.2.1.1 d.2.2.2.1 d.2.2.2.2.1 d.2.2.2.2.2.1 d.2.2.2.2.2.2.1 = evC E_girolaw10_some A_girolaw10_some k 1000 0 91 (loopAt (bodyOf Proofs.Try.f19) 0) (stOf (1000 + loopBase) I_girolaw10_some_L0 d) (roundK 1000 I_girolaw10_some_L0 O_girolaw10_some_L0 T_girolaw10_some_L0 fun d => rec d.1.1.1 d.1.2.1.1 d.1.2.2.2.2.1.1 d.2.2.2.1 d.2.2.2.2.1 d.2.2.2.2.2.1 d.2.2.2.2.2.2.1) := by
  obtain ⟨⟨⟨_, _⟩, ⟨_, _⟩, _, _, ⟨_, _⟩, _⟩, ⟨_, _, _, _, _, _, _⟩⟩ := d
  kernel_rfl
theorem girolaw10_some_L0_ok : LoopOK Proofs.Try.prog 1000 0 91 (loopAt (bodyOf Proofs.Try.f19) 0) L_girolaw10_some_L0 :=
  loop_sound (A := A_girolaw10_some) (inS := I_girolaw10_some_L0) (outs := O_girolaw10_some_L0) E_girolaw10_some_ok E_girolaw10_some_local mixed_orders (loopsOK_none (by kernel_rfl)) T_girolaw10_some_L0 e_girolaw10_some_L0 (fun _ _ _ => rfl) (fun k n d => girolaw10_some_L0 k n d.1.1.1 d.1.2.1.1 d.1.2.2.2.2.1.1 d.2.2.2.1 d.2.2.2.2.1 d.2.2.2.2.2.1 d.2.2.2.2.2.2.1) (fun _ _ => rfl) (fun k n d => girolaw10_some_L0_step k (girolaw10_some_L0 k n) d)
def as_girolaw10_some : List AS := [.c (.dat false (.int .i64)), .c (.int .i64)]
def rs_girolaw10_some : RS := .agg [.own (.pair (.int .i64) (.pair (.int .i64) (.int .i64))), .mat, .own (.int .i64), .mat]
def pk_girolaw10_some : (List (Int × Int × Int)) × (List (List Int)) × (List Int) × (List (List Int)) → RL rs_girolaw10_some.cells := fun x => (x.1, x.2.1, x.2.2.1, x.2.2.2, ())
def up_girolaw10_some : RL rs_girolaw10_some.cells → (List (Int × Int × Int)) × (List (List Int)) × (List Int) × (List (List Int)) := fun d => (d.1, d.2.1, d.2.2.1, d.2.2.2.1)
def R_girolaw10_some : Nat × Entry := (19, fun k nm args h => entry as_girolaw10_some rs_girolaw10_some (fun d => girolaw10_some k d.1 d.2.1) pk_girolaw10_some nm args h)
theorem girolaw10_some_ev (k : Nat) (d : AD as_girolaw10_some) : evF E_girolaw10_some A_girolaw10_some k 1000 0 Proofs.Try.f19 (absArgs as_girolaw10_some d).1 (absArgs as_girolaw10_some d).2 (outM rs_girolaw10_some up_girolaw10_some) = girolaw10_some k d.1 d.2.1 := by
  obtain ⟨_, _, _⟩ := d
  kernel_rfl
theorem R_girolaw10_some_ok : EntryOK Proofs.Try.prog R_girolaw10_some := fun k _ _ _ _ _ hy =>
  entry_sound (unpack := up_girolaw10_some) (A := A_girolaw10_some) (k := k) (pre := 1000) (na := 0) (E := E_girolaw10_some) E_girolaw10_some_ok E_girolaw10_some_local mixed_orders (f := 19) (fn := Proofs.Try.f19) (by kernel_rfl) (body_loops (loopsOK_of (n := 1) (by kernel_rfl) fun i hi => match i, hi with | 0, _ => ⟨L_girolaw10_some_L0, by kernel_rfl, girolaw10_some_L0_ok⟩ | i + 1, hi => absurd hi (by omega))) (enters (fn := Proofs.Try.f19) (by kernel_rfl) (by kernel_rfl) (by kernel_rfl)) (fun _ => rfl) (girolaw10_some_ev k) hy
theorem R_girolaw10_some_local : EntryLocal R_girolaw10_some.2 := entry_local (S := fun k (d : AD as_girolaw10_some) => girolaw10_some k d.1 d.2.1)

/-! ### giro/acct.Is -/
noncomputable def E_acct_Is : Env := ⟨Proofs.Try.prog, fun _ => false, sumsOf []⟩
def A_acct_Is : Notes := ⟨[], []⟩
theorem E_acct_Is_ok : EnvOK E_acct_Is := ⟨eqOK_none, sumsOf_ok (List.forall_mem_nil _)⟩
theorem E_acct_Is_local : SumsLocal E_acct_Is.sums := sumsOf_local (List.forall_mem_nil _)
def as_acct_Is : List AS := [.agg [.int .i64, .int .i64, .int .i64]]
def rs_acct_Is : RS := .c (.bool)
def pk_acct_Is : Bool → RL rs_acct_Is.cells := fun x => (x, ())
def up_acct_Is : RL rs_acct_Is.cells → Bool := fun d => d.1
def R_acct_Is : Nat × Entry := (87, fun k nm args h => entry as_acct_Is rs_acct_Is (fun d => acct_Is k d.1 d.2.1 d.2.2.1) pk_acct_Is nm args h)
theorem acct_Is_ev (k : Nat) (d : AD as_acct_Is) : evF E_acct_Is A_acct_Is k 1000 0 Proofs.Try.f87 (absArgs as_acct_Is d).1 (absArgs as_acct_Is d).2 (outM rs_acct_Is up_acct_Is) = acct_Is k d.1 d.2.1 d.2.2.1 := by
  obtain ⟨_, _, _, _⟩ := d
  kernel_rfl
theorem R_acct_Is_ok : EntryOK Proofs.Try.prog R_acct_Is := fun k _ _ _ _ _ hy =>
  entry_sound (unpack := up_acct_Is) (A := A_acct_Is) (k := k) (pre := 1000) (na := 0) (E := E_acct_Is) E_acct_Is_ok E_acct_Is_local mixed_orders (f := 87) (fn := Proofs.Try.f87) (by kernel_rfl) (body_loops (loopsOK_none (by kernel_rfl))) (enters (fn := Proofs.Try.f87) (by kernel_rfl) (by kernel_rfl) (by kernel_rfl)) (fun _ => rfl) (acct_Is_ev k) hy
theorem R_acct_Is_local : EntryLocal R_acct_Is.2 := entry_local (S := fun k (d : AD as_acct_Is) => acct_Is k d.1 d.2.1 d.2.2.1)

/-! ### giro/lim.Is$1 -/
noncomputable def E_lim_Is_fn1 : Env := ⟨Proofs.Try.prog, fun _ => false, sumsOf [R_acct_Is]⟩
def A_lim_Is_fn1 : Notes := ⟨[], []⟩
theorem E_lim_Is_fn1_ok : EnvOK E_lim_Is_fn1 := ⟨eqOK_none, sumsOf_ok (List.forall_mem_cons.2 ⟨R_acct_Is_ok, List.forall_mem_nil _⟩)⟩
theorem E_lim_Is_fn1_local : SumsLocal E_lim_Is_fn1.sums := sumsOf_local (List.forall_mem_cons.2 ⟨R_acct_Is_local, List.forall_mem_nil _⟩)
def as_lim_Is_fn1 : List AS := [.agg [.int .i64, .int .i64, .int .i64]]
def rs_lim_Is_fn1 : RS := .c (.bool)
def pk_lim_Is_fn1 : Bool → RL rs_lim_Is_fn1.cells := fun x => (x, ())
def up_lim_Is_fn1 : RL rs_lim_Is_fn1.cells → Bool := fun d => d.1
def R_lim_Is_fn1 : Nat × Entry := (86, fun k nm args h => entry as_lim_Is_fn1 rs_lim_Is_fn1 (fun d => lim_Is_fn1 k d.1 d.2.1 d.2.2.1) pk_lim_Is_fn1 nm args h)
theorem lim_Is_fn1_ev (k : Nat) (d : AD as_lim_Is_fn1) : evF E_lim_Is_fn1 A_lim_Is_fn1 k 1000 0 Proofs.Try.f86 (absArgs as_lim_Is_fn1 d).1 (absArgs as_lim_Is_fn1 d).2 (outM rs_lim_Is_fn1 up_lim_Is_fn1) = lim_Is_fn1 k d.1 d.2.1 d.2.2.1 := by
  obtain ⟨_, _, _, _⟩ := d
  kernel_rfl
theorem R_lim_Is_fn1_ok : EntryOK Proofs.Try.prog R_lim_Is_fn1 := fun k _ _ _ _ _ hy =>
  entry_sound (unpack := up_lim_Is_fn1) (A := A_lim_Is_fn1) (k := k) (pre := 1000) (na := 0) (E := E_lim_Is_fn1) E_lim_Is_fn1_ok E_lim_Is_fn1_local mixed_orders (f := 86) (fn := Proofs.Try.f86) (by kernel_rfl) (body_loops (loopsOK_none (by kernel_rfl))) (enters (fn := Proofs.Try.f86) (by kernel_rfl) (by kernel_rfl) (by kernel_rfl)) (fun _ => rfl) (lim_Is_fn1_ev k) hy
theorem R_lim_Is_fn1_local : EntryLocal R_lim_Is_fn1.2 := entry_local (S := fun k (d : AD as_lim_Is_fn1) => lim_Is_fn1 k d.1 d.2.1 d.2.2.1)

/-! ### slices.IndexFunc[[]giro/api.Acct,giro/api.Acct] -/
noncomputable def E_slices_IndexFunc_Acct__lim_Is_fn1 : Env := ⟨Proofs.Try.prog, fun _ => false, sumsOf [R_lim_Is_fn1]⟩
def I_slices_IndexFunc_Acct__lim_Is_fn1_L0 : Spec := ⟨[(0, .c (.dat false (.pair (.int .i64) (.pair (.int .i64) (.int .i64))))), (1, .c (.lit (.fn 86 []))), (7, .c (.int .i64)), (8, .c (.int .i64))], [], []⟩
def O_slices_IndexFunc_Acct__lim_Is_fn1_L0 : List (Ex × Spec) := [(.exit 0, ⟨[], [], []⟩), (.ret, ⟨[(4, .c (.int .i64))], [], []⟩)]
def T_slices_IndexFunc_Acct__lim_Is_fn1_L0 : OutD O_slices_IndexFunc_Acct__lim_Is_fn1_L0 → Unit ⊕ Int
 | .inl d => .inl ()
 | .inr d => .inr d.1.1.1
def e_slices_IndexFunc_Acct__lim_Is_fn1_L0 (base : Nat) (x : Unit ⊕ Int) (R : Type) (K : Ex → St → Option R) : Option R := match x with
 | .inl x => K (.exit 0) (stOf base ⟨[], [], []⟩ ((), ()))
 | .inr x => K .ret (stOf base ⟨[(4, .c (.int .i64))], [], []⟩ (((x, ()), ()), ()))
def L_slices_IndexFunc_Acct__lim_Is_fn1_L0 : LoopSum := ⟨I_slices_IndexFunc_Acct__lim_Is_fn1_L0, O_slices_IndexFunc_Acct__lim_Is_fn1_L0, Unit ⊕ Int, fun k d => slices_IndexFunc_Acct__lim_Is_fn1_L0 k k d.1.1.1 d.1.2.2.1.1 d.1.2.2.2.1.1, e_slices_IndexFunc_Acct__lim_Is_fn1_L0⟩
def A_slices_IndexFunc_Acct__lim_Is_fn1 : Notes := ⟨[], [(2, L_slices_IndexFunc_Acct__lim_Is_fn1_L0)]⟩
theorem E_slices_IndexFunc_Acct__lim_Is_fn1_ok : EnvOK E_slices_IndexFunc_Acct__lim_Is_fn1 := ⟨eqOK_none, sumsOf_ok (List.forall_mem_cons.2 ⟨R_lim_Is_fn1_ok, List.forall_mem_nil _⟩)⟩
theorem E_slices_IndexFunc_Acct__lim_Is_fn1_local : SumsLocal E_slices_IndexFunc_Acct__lim_Is_fn1.sums := sumsOf_local (List.forall_mem_cons.2 ⟨R_lim_Is_fn1_local, List.forall_mem_nil _⟩)
theorem slices_IndexFunc_Acct__lim_Is_fn1_L0_step (k : Nat) (rec : List (Int × Int × Int) → Int → Int → Option (Unit ⊕ Int)) (d : I_slices_IndexFunc_Acct__lim_Is_fn1_L0.den) : slices_IndexFunc_Acct__lim_Is_fn1_L0b k rec d.1.1.1 d.1.2.2.1.1 d.1.2.2.2.1.1 = evC E_slices_IndexFunc_Acct__lim_Is_fn1 A_slices_IndexFunc_Acct__lim_Is_fn1 k 1000 0 19 (loopAt (bodyOf Proofs.Try.f110) 0) (stOf (1000 + loopBase) I_slices_IndexFunc_Acct__lim_Is_fn1_L0 d) (roundK 1000 I_slices_IndexFunc_Acct__lim_Is_fn1_L0 O_slices_IndexFunc_Acct__lim_Is_fn1_L0 T_slices_IndexFunc_Acct__lim_Is_fn1_L0 fun d => rec d.1.1.1 d.1.2.2.1.1 d.1.2.2.2.1.1) := by
  obtain ⟨⟨⟨_, _⟩, _, ⟨_, _⟩, ⟨_, _⟩, _⟩, _⟩ := d
  kernel_rfl
theorem slices_IndexFunc_Acct__lim_Is_fn1_L0_ok : LoopOK Proofs.Try.prog 1000 0 19 (loopAt (bodyOf Proofs.Try.f110) 0) L_slices_IndexFunc_Acct__lim_Is_fn1_L0 :=
  loop_sound (A := A_slices_IndexFunc_Acct__lim_Is_fn1) (inS := I_slices_IndexFunc_Acct__lim_Is_fn1_L0) (outs := O_slices_IndexFunc_Acct__lim_Is_fn1_L0) E_slices_IndexFunc_Acct__lim_Is_fn1_ok E_slices_IndexFunc_Acct__lim_Is_fn1_local mixed_orders (loopsOK_none (by kernel_rfl)) T_slices_IndexFunc_Acct__lim_Is_fn1_L0 e_slices_IndexFunc_Acct__lim_Is_fn1_L0 (by intro o R K; rcases o with o | o <;> rfl) (fun k n d => slices_IndexFunc_Acct__lim_Is_fn1_L0 k n d.1.1.1 d.1.2.2.1.1 d.1.2.2.2.1.1) (fun _ _ => rfl) (fun k n d => slices_IndexFunc_Acct__lim_Is_fn1_L0_step k (slices_IndexFunc_Acct__lim_Is_fn1_L0 k n) d)
def as_slices_IndexFunc_Acct__lim_Is_fn1 : List AS := [.c (.dat false (.pair (.int .i64) (.pair (.int .i64) (.int .i64)))), .c (.fn 86)]
def rs_slices_IndexFunc_Acct__lim_Is_fn1 : RS := .c (.int .i64)
def pk_slices_IndexFunc_Acct__lim_Is_fn1 : Int → RL rs_slices_IndexFunc_Acct__lim_Is_fn1.cells := fun x => (x, ())
def up_slices_IndexFunc_Acct__lim_Is_fn1 : RL rs_slices_IndexFunc_Acct__lim_Is_fn1.cells → Int := fun d => d.1
def R_slices_IndexFunc_Acct__lim_Is_fn1 : Nat × Entry := (110, fun k nm args h => entry as_slices_IndexFunc_Acct__lim_Is_fn1 rs_slices_IndexFunc_Acct__lim_Is_fn1 (fun d => slices_IndexFunc_Acct__lim_Is_fn1 k d.1) pk_slices_IndexFunc_Acct__lim_Is_fn1 nm args h)
theorem slices_IndexFunc_Acct__lim_Is_fn1_ev (k : Nat) (d : AD as_slices_IndexFunc_Acct__lim_Is_fn1) : evF E_slices_IndexFunc_Acct__lim_Is_fn1 A_slices_IndexFunc_Acct__lim_Is_fn1 k 1000 0 Proofs.Try.f110 (absArgs as_slices_IndexFunc_Acct__lim_Is_fn1 d).1 (absArgs as_slices_IndexFunc_Acct__lim_Is_fn1 d).2 (outM rs_slices_IndexFunc_Acct__lim_Is_fn1 up_slices_IndexFunc_Acct__lim_Is_fn1) = slices_IndexFunc_Acct__lim_Is_fn1 k d.1 := by
  obtain ⟨_, _, _⟩ := d
  kernel_rfl
theorem R_slices_IndexFunc_Acct__lim_Is_fn1_ok : EntryOK Proofs.Try.prog R_slices_IndexFunc_Acct__lim_Is_fn1 := fun k _ _ _ _ _ hy =>
  entry_sound (unpack := up_slices_IndexFunc_Acct__lim_Is_fn1) (A := A_slices_IndexFunc_Acct__lim_Is_fn1) (k := k) (pre := 1000) (na := 0) (E := E_slices_IndexFunc_Acct__lim_Is_fn1) E_slices_IndexFunc_Acct__lim_Is_fn1_ok E_slices_IndexFunc_Acct__lim_Is_fn1_local mixed_orders (f := 110) (fn := Proofs.Try.f110) (by kernel_rfl) (body_loops (loopsOK_of (n := 1) (by kernel_rfl) fun i hi => match i, hi with | 0, _ => ⟨L_slices_IndexFunc_Acct__lim_Is_fn1_L0, by kernel_rfl, slices_IndexFunc_Acct__lim_Is_fn1_L0_ok⟩ | i + 1, hi => absurd hi (by omega))) (enters (fn := Proofs.Try.f110) (by kernel_rfl) (by kernel_rfl) (by kernel_rfl)) (fun _ => rfl) (slices_IndexFunc_Acct__lim_Is_fn1_ev k) hy
theorem R_slices_IndexFunc_Acct__lim_Is_fn1_local : EntryLocal R_slices_IndexFunc_Acct__lim_Is_fn1.2 := entry_local (S := fun k (d : AD as_slices_IndexFunc_Acct__lim_Is_fn1) => slices_IndexFunc_Acct__lim_Is_fn1 k d.1)

/-! ### slices.ContainsFunc[[]giro/api.Acct,giro/api.Acct] -/
noncomputable def E_slices_ContainsFunc_Acct__lim_Is_fn1 : Env := ⟨Proofs.Try.prog, fun _ => false, sumsOf [R_slices_IndexFunc_Acct__lim_Is_fn1]⟩
def A_slices_ContainsFunc_Acct__lim_Is_fn1 : Notes := ⟨[], []⟩
theorem E_slices_ContainsFunc_Acct__lim_Is_fn1_ok : EnvOK E_slices_ContainsFunc_Acct__lim_Is_fn1 := ⟨eqOK_none, sumsOf_ok (List.forall_mem_cons.2 ⟨R_slices_IndexFunc_Acct__lim_Is_fn1_ok, List.forall_mem_nil _⟩)⟩
theorem E_slices_ContainsFunc_Acct__lim_Is_fn1_local : SumsLocal E_slices_ContainsFunc_Acct__lim_Is_fn1.sums := sumsOf_local (List.forall_mem_cons.2 ⟨R_slices_IndexFunc_Acct__lim_Is_fn1_local, List.forall_mem_nil _⟩)
def as_slices_ContainsFunc_Acct__lim_Is_fn1 : List AS := [.c (.dat false (.pair (.int .i64) (.pair (.int .i64) (.int .i64)))), .c (.fn 86)]
def rs_slices_ContainsFunc_Acct__lim_Is_fn1 : RS := .c (.bool)
def pk_slices_ContainsFunc_Acct__lim_Is_fn1 : Bool → RL rs_slices_ContainsFunc_Acct__lim_Is_fn1.cells := fun x => (x, ())
def up_slices_ContainsFunc_Acct__lim_Is_fn1 : RL rs_slices_ContainsFunc_Acct__lim_Is_fn1.cells → Bool := fun d => d.1
def R_slices_ContainsFunc_Acct__lim_Is_fn1 : Nat × Entry := (88, fun k nm args h => entry as_slices_ContainsFunc_Acct__lim_Is_fn1 rs_slices_ContainsFunc_Acct__lim_Is_fn1 (fun d => slices_ContainsFunc_Acct__lim_Is_fn1 k d.1) pk_slices_ContainsFunc_Acct__lim_Is_fn1 nm args h)
theorem slices_ContainsFunc_Acct__lim_Is_fn1_ev (k : Nat) (d : AD as_slices_ContainsFunc_Acct__lim_Is_fn1) : evF E_slices_ContainsFunc_Acct__lim_Is_fn1 A_slices_ContainsFunc_Acct__lim_Is_fn1 k 1000 0 Proofs.Try.f88 (absArgs as_slices_ContainsFunc_Acct__lim_Is_fn1 d).1 (absArgs as_slices_ContainsFunc_Acct__lim_Is_fn1 d).2 (outM rs_slices_ContainsFunc_Acct__lim_Is_fn1 up_slices_ContainsFunc_Acct__lim_Is_fn1) = slices_ContainsFunc_Acct__lim_Is_fn1 k d.1 := by
  obtain ⟨_, _, _⟩ := d
  kernel_rfl
theorem R_slices_ContainsFunc_Acct__lim_Is_fn1_ok : EntryOK Proofs.Try.prog R_slices_ContainsFunc_Acct__lim_Is_fn1 := fun k _ _ _ _ _ hy =>
  entry_sound (unpack := up_slices_ContainsFunc_Acct__lim_Is_fn1) (A := A_slices_ContainsFunc_Acct__lim_Is_fn1) (k := k) (pre := 1000) (na := 0) (E := E_slices_ContainsFunc_Acct__lim_Is_fn1) E_slices_ContainsFunc_Acct__lim_Is_fn1_ok E_slices_ContainsFunc_Acct__lim_Is_fn1_local mixed_orders (f := 88) (fn := Proofs.Try.f88) (by kernel_rfl) (body_loops (loopsOK_none (by kernel_rfl))) (enters (fn := Proofs.Try.f88) (by kernel_rfl) (by kernel_rfl) (by kernel_rfl)) (fun _ => rfl) (slices_ContainsFunc_Acct__lim_Is_fn1_ev k) hy
theorem R_slices_ContainsFunc_Acct__lim_Is_fn1_local : EntryLocal R_slices_ContainsFunc_Acct__lim_Is_fn1.2 := entry_local (S := fun k (d : AD as_slices_ContainsFunc_Acct__lim_Is_fn1) => slices_ContainsFunc_Acct__lim_Is_fn1 k d.1)

/-! ### giro/lim.isLimit -/
noncomputable def E_lim_isLimit : Env := ⟨Proofs.Try.prog, fun _ => false, sumsOf []⟩
def A_lim_isLimit : Notes := ⟨[], []⟩
theorem E_lim_isLimit_ok : EnvOK E_lim_isLimit := ⟨eqOK_none, sumsOf_ok (List.forall_mem_nil _)⟩
theorem E_lim_isLimit_local : SumsLocal E_lim_isLimit.sums := sumsOf_local (List.forall_mem_nil _)
def as_lim_isLimit : List AS := [.c (.int .i64)]
def rs_lim_isLimit : RS := .c (.bool)
def pk_lim_isLimit : Bool → RL rs_lim_isLimit.cells := fun x => (x, ())
def up_lim_isLimit : RL rs_lim_isLimit.cells → Bool := fun d => d.1
def R_lim_isLimit : Nat × Entry := (90, fun k nm args h => entry as_lim_isLimit rs_lim_isLimit (fun d => lim_isLimit k d.1) pk_lim_isLimit nm args h)
theorem lim_isLimit_ev (k : Nat) (d : AD as_lim_isLimit) : evF E_lim_isLimit A_lim_isLimit k 1000 0 Proofs.Try.f90 (absArgs as_lim_isLimit d).1 (absArgs as_lim_isLimit d).2 (outM rs_lim_isLimit up_lim_isLimit) = lim_isLimit k d.1 := by
  obtain ⟨_, _⟩ := d
  kernel_rfl
theorem R_lim_isLimit_ok : EntryOK Proofs.Try.prog R_lim_isLimit := fun k _ _ _ _ _ hy =>
  entry_sound (unpack := up_lim_isLimit) (A := A_lim_isLimit) (k := k) (pre := 1000) (na := 0) (E := E_lim_isLimit) E_lim_isLimit_ok E_lim_isLimit_local mixed_orders (f := 90) (fn := Proofs.Try.f90) (by kernel_rfl) (body_loops (loopsOK_none (by kernel_rfl))) (enters (fn := Proofs.Try.f90) (by kernel_rfl) (by kernel_rfl) (by kernel_rfl)) (fun _ => rfl) (lim_isLimit_ev k) hy
theorem R_lim_isLimit_local : EntryLocal R_lim_isLimit.2 := entry_local (S := fun k (d : AD as_lim_isLimit) => lim_isLimit k d.1)

/-! ### giro/lim.isRow$1 -/
noncomputable def E_lim_isRow_fn1__lim_isLimit : Env := ⟨Proofs.Try.prog, fun _ => false, sumsOf [R_lim_isLimit]⟩
def A_lim_isRow_fn1__lim_isLimit : Notes := ⟨[], []⟩
theorem E_lim_isRow_fn1__lim_isLimit_ok : EnvOK E_lim_isRow_fn1__lim_isLimit := ⟨eqOK_none, sumsOf_ok (List.forall_mem_cons.2 ⟨R_lim_isLimit_ok, List.forall_mem_nil _⟩)⟩
theorem E_lim_isRow_fn1__lim_isLimit_local : SumsLocal E_lim_isRow_fn1__lim_isLimit.sums := sumsOf_local (List.forall_mem_cons.2 ⟨R_lim_isLimit_local, List.forall_mem_nil _⟩)
def as_lim_isRow_fn1__lim_isLimit : List AS := [.c (.int .i64), .ptr [.fn 90]]
def rs_lim_isRow_fn1__lim_isLimit : RS := .c (.bool)
def pk_lim_isRow_fn1__lim_isLimit : Bool → RL rs_lim_isRow_fn1__lim_isLimit.cells := fun x => (x, ())
def up_lim_isRow_fn1__lim_isLimit : RL rs_lim_isRow_fn1__lim_isLimit.cells → Bool := fun d => d.1
def R_lim_isRow_fn1__lim_isLimit : Nat × Entry := (112, fun k nm args h => entry as_lim_isRow_fn1__lim_isLimit rs_lim_isRow_fn1__lim_isLimit (fun d => lim_isRow_fn1__lim_isLimit k d.1) pk_lim_isRow_fn1__lim_isLimit nm args h)
theorem lim_isRow_fn1__lim_isLimit_ev (k : Nat) (d : AD as_lim_isRow_fn1__lim_isLimit) : evF E_lim_isRow_fn1__lim_isLimit A_lim_isRow_fn1__lim_isLimit k 1000 0 Proofs.Try.f112 (absArgs as_lim_isRow_fn1__lim_isLimit d).1 (absArgs as_lim_isRow_fn1__lim_isLimit d).2 (outM rs_lim_isRow_fn1__lim_isLimit up_lim_isRow_fn1__lim_isLimit) = lim_isRow_fn1__lim_isLimit k d.1 := by
  obtain ⟨_, _, _⟩ := d
  kernel_rfl
theorem R_lim_isRow_fn1__lim_isLimit_ok : EntryOK Proofs.Try.prog R_lim_isRow_fn1__lim_isLimit := fun k _ _ _ _ _ hy =>
  entry_sound (unpack := up_lim_isRow_fn1__lim_isLimit) (A := A_lim_isRow_fn1__lim_isLimit) (k := k) (pre := 1000) (na := 0) (E := E_lim_isRow_fn1__lim_isLimit) E_lim_isRow_fn1__lim_isLimit_ok E_lim_isRow_fn1__lim_isLimit_local mixed_orders (f := 112) (fn := Proofs.Try.f112) (by kernel_rfl) (body_loops (loopsOK_none (by kernel_rfl))) (enters (fn := Proofs.Try.f112) (by kernel_rfl) (by kernel_rfl) (by kernel_rfl)) (fun _ => rfl) (lim_isRow_fn1__lim_isLimit_ev k) hy
theorem R_lim_isRow_fn1__lim_isLimit_local : EntryLocal R_lim_isRow_fn1__lim_isLimit.2 := entry_local (S := fun k (d : AD as_lim_isRow_fn1__lim_isLimit) => lim_isRow_fn1__lim_isLimit k d.1)

/-! ### slices.IndexFunc[[]int64,int64] -/
noncomputable def E_slices_IndexFunc_int64__lim_isRow_fn1__lim_isLimit : Env := ⟨Proofs.Try.prog, fun _ => false, sumsOf [R_lim_isRow_fn1__lim_isLimit]⟩
def I_slices_IndexFunc_int64__lim_isRow_fn1__lim_isLimit_L0 : Spec := ⟨[(0, .c (.dat false (.int .i64))), (1, .c (.lit (.fn 112 [1001000]))), (7, .c (.int .i64)), (8, .c (.int .i64))], [.robox [.lit (.fn 90 [])]], []⟩
def O_slices_IndexFunc_int64__lim_isRow_fn1__lim_isLimit_L0 : List (Ex × Spec) := [(.exit 0, ⟨[], [], []⟩), (.ret, ⟨[(4, .c (.int .i64))], [], []⟩)]
def T_slices_IndexFunc_int64__lim_isRow_fn1__lim_isLimit_L0 : OutD O_slices_IndexFunc_int64__lim_isRow_fn1__lim_isLimit_L0 → Unit ⊕ Int
 | .inl d => .inl ()
 | .inr d => .inr d.1.1.1
def e_slices_IndexFunc_int64__lim_isRow_fn1__lim_isLimit_L0 (base : Nat) (x : Unit ⊕ Int) (R : Type) (K : Ex → St → Option R) : Option R := match x with
 | .inl x => K (.exit 0) (stOf base ⟨[], [], []⟩ ((), ()))
 | .inr x => K .ret (stOf base ⟨[(4, .c (.int .i64))], [], []⟩ (((x, ()), ()), ()))
def L_slices_IndexFunc_int64__lim_isRow_fn1__lim_isLimit_L0 : LoopSum := ⟨I_slices_IndexFunc_int64__lim_isRow_fn1__lim_isLimit_L0, O_slices_IndexFunc_int64__lim_isRow_fn1__lim_isLimit_L0, Unit ⊕ Int, fun k d => slices_IndexFunc_int64__lim_isRow_fn1__lim_isLimit_L0 k k d.1.1.1 d.1.2.2.1.1 d.1.2.2.2.1.1, e_slices_IndexFunc_int64__lim_isRow_fn1__lim_isLimit_L0⟩
def A_slices_IndexFunc_int64__lim_isRow_fn1__lim_isLimit : Notes := ⟨[], [(2, L_slices_IndexFunc_int64__lim_isRow_fn1__lim_isLimit_L0)]⟩
theorem E_slices_IndexFunc_int64__lim_isRow_fn1__lim_isLimit_ok : EnvOK E_slices_IndexFunc_int64__lim_isRow_fn1__lim_isLimit := ⟨eqOK_none, sumsOf_ok (List.forall_mem_cons.2 ⟨R_lim_isRow_fn1__lim_isLimit_ok, List.forall_mem_nil _⟩)⟩
theorem E_slices_IndexFunc_int64__lim_isRow_fn1__lim_isLimit_local : SumsLocal E_slices_IndexFunc_int64__lim_isRow_fn1__lim_isLimit.sums := sumsOf_local (List.forall_mem_cons.2 ⟨R_lim_isRow_fn1__lim_isLimit_local, List.forall_mem_nil _⟩)
theorem slices_IndexFunc_int64__lim_isRow_fn1__lim_isLimit_L0_step (k : Nat) (rec : List Int → Int → Int → Option (Unit ⊕ Int)) (d : I_slices_IndexFunc_int64__lim_isRow_fn1__lim_isLimit_L0.den) : slices_IndexFunc_int64__lim_isRow_fn1__lim_isLimit_L0b k rec d.1.1.1 d.1.2.2.1.1 d.1.2.2.2.1.1 = evC E_slices_IndexFunc_int64__lim_isRow_fn1__lim_isLimit A_slices_IndexFunc_int64__lim_isRow_fn1__lim_isLimit k 1000 0 19 (loopAt (bodyOf Proofs.Try.f129) 0) (stOf (1000 + loopBase) I_slices_IndexFunc_int64__lim_isRow_fn1__lim_isLimit_L0 d) (roundK 1000 I_slices_IndexFunc_int64__lim_isRow_fn1__lim_isLimit_L0 O_slices_IndexFunc_int64__lim_isRow_fn1__lim_isLimit_L0 T_slices_IndexFunc_int64__lim_isRow_fn1__lim_isLimit_L0 fun d => rec d.1.1.1 d.1.2.2.1.1 d.1.2.2.2.1.1) := by
  obtain ⟨⟨⟨_, _⟩, _, ⟨_, _⟩, ⟨_, _⟩, _⟩, ⟨_, _⟩⟩ := d
  kernel_rfl
theorem slices_IndexFunc_int64__lim_isRow_fn1__lim_isLimit_L0_ok : LoopOK Proofs.Try.prog 1000 0 19 (loopAt (bodyOf Proofs.Try.f129) 0) L_slices_IndexFunc_int64__lim_isRow_fn1__lim_isLimit_L0 :=
  loop_sound (A := A_slices_IndexFunc_int64__lim_isRow_fn1__lim_isLimit) (inS := I_slices_IndexFunc_int64__lim_isRow_fn1__lim_isLimit_L0) (outs := O_slices_IndexFunc_int64__lim_isRow_fn1__lim_isLimit_L0) E_slices_IndexFunc_int64__lim_isRow_fn1__lim_isLimit_ok E_slices_IndexFunc_int64__lim_isRow_fn1__lim_isLimit_local mixed_orders (loopsOK_none (by kernel_rfl)) T_slices_IndexFunc_int64__lim_isRow_fn1__lim_isLimit_L0 e_slices_IndexFunc_int64__lim_isRow_fn1__lim_isLimit_L0 (by intro o R K; rcases o with o | o <;> rfl) (fun k n d => slices_IndexFunc_int64__lim_isRow_fn1__lim_isLimit_L0 k n d.1.1.1 d.1.2.2.1.1 d.1.2.2.2.1.1) (fun _ _ => rfl) (fun k n d => slices_IndexFunc_int64__lim_isRow_fn1__lim_isLimit_L0_step k (slices_IndexFunc_int64__lim_isRow_fn1__lim_isLimit_L0 k n) d)
def as_slices_IndexFunc_int64__lim_isRow_fn1__lim_isLimit : List AS := [.c (.dat false (.int .i64)), .fn 112 [[.fn 90]]]
def rs_slices_IndexFunc_int64__lim_isRow_fn1__lim_isLimit : RS := .c (.int .i64)
def pk_slices_IndexFunc_int64__lim_isRow_fn1__lim_isLimit : Int → RL rs_slices_IndexFunc_int64__lim_isRow_fn1__lim_isLimit.cells := fun x => (x, ())
def up_slices_IndexFunc_int64__lim_isRow_fn1__lim_isLimit : RL rs_slices_IndexFunc_int64__lim_isRow_fn1__lim_isLimit.cells → Int := fun d => d.1
def R_slices_IndexFunc_int64__lim_isRow_fn1__lim_isLimit : Nat × Entry := (129, fun k nm args h => entry as_slices_IndexFunc_int64__lim_isRow_fn1__lim_isLimit rs_slices_IndexFunc_int64__lim_isRow_fn1__lim_isLimit (fun d => slices_IndexFunc_int64__lim_isRow_fn1__lim_isLimit k d.1) pk_slices_IndexFunc_int64__lim_isRow_fn1__lim_isLimit nm args h)
theorem slices_IndexFunc_int64__lim_isRow_fn1__lim_isLimit_ev (k : Nat) (d : AD as_slices_IndexFunc_int64__lim_isRow_fn1__lim_isLimit) : evF E_slices_IndexFunc_int64__lim_isRow_fn1__lim_isLimit A_slices_IndexFunc_int64__lim_isRow_fn1__lim_isLimit k 1000 0 Proofs.Try.f129 (absArgs as_slices_IndexFunc_int64__lim_isRow_fn1__lim_isLimit d).1 (absArgs as_slices_IndexFunc_int64__lim_isRow_fn1__lim_isLimit d).2 (outM rs_slices_IndexFunc_int64__lim_isRow_fn1__lim_isLimit up_slices_IndexFunc_int64__lim_isRow_fn1__lim_isLimit) = slices_IndexFunc_int64__lim_isRow_fn1__lim_isLimit k d.1 := by
  obtain ⟨_, _, _⟩ := d
  kernel_rfl
theorem R_slices_IndexFunc_int64__lim_isRow_fn1__lim_isLimit_ok : EntryOK Proofs.Try.prog R_slices_IndexFunc_int64__lim_isRow_fn1__lim_isLimit := fun k _ _ _ _ _ hy =>
  entry_sound (unpack := up_slices_IndexFunc_int64__lim_isRow_fn1__lim_isLimit) (A := A_slices_IndexFunc_int64__lim_isRow_fn1__lim_isLimit) (k := k) (pre := 1000) (na := 0) (E := E_slices_IndexFunc_int64__lim_isRow_fn1__lim_isLimit) E_slices_IndexFunc_int64__lim_isRow_fn1__lim_isLimit_ok E_slices_IndexFunc_int64__lim_isRow_fn1__lim_isLimit_local mixed_orders (f := 129) (fn := Proofs.Try.f129) (by kernel_rfl) (body_loops (loopsOK_of (n := 1) (by kernel_rfl) fun i hi => match i, hi with | 0, _ => ⟨L_slices_IndexFunc_int64__lim_isRow_fn1__lim_isLimit_L0, by kernel_rfl, slices_IndexFunc_int64__lim_isRow_fn1__lim_isLimit_L0_ok⟩ | i + 1, hi => absurd hi (by omega))) (enters (fn := Proofs.Try.f129) (by kernel_rfl) (by kernel_rfl) (by kernel_rfl)) (fun _ => rfl) (slices_IndexFunc_int64__lim_isRow_fn1__lim_isLimit_ev k) hy
theorem R_slices_IndexFunc_int64__lim_isRow_fn1__lim_isLimit_local : EntryLocal R_slices_IndexFunc_int64__lim_isRow_fn1__lim_isLimit.2 := entry_local (S := fun k (d : AD as_slices_IndexFunc_int64__lim_isRow_fn1__lim_isLimit) => slices_IndexFunc_int64__lim_isRow_fn1__lim_isLimit k d.1)

/-! ### slices.ContainsFunc[[]int64,int64] -/
noncomputable def E_slices_ContainsFunc_int64__lim_isRow_fn1__lim_isLimit : Env := ⟨Proofs.Try.prog, fun _ => false, sumsOf [R_slices_IndexFunc_int64__lim_isRow_fn1__lim_isLimit]⟩
def A_slices_ContainsFunc_int64__lim_isRow_fn1__lim_isLimit : Notes := ⟨[], []⟩
theorem E_slices_ContainsFunc_int64__lim_isRow_fn1__lim_isLimit_ok : EnvOK E_slices_ContainsFunc_int64__lim_isRow_fn1__lim_isLimit := ⟨eqOK_none, sumsOf_ok (List.forall_mem_cons.2 ⟨R_slices_IndexFunc_int64__lim_isRow_fn1__lim_isLimit_ok, List.forall_mem_nil _⟩)⟩
theorem E_slices_ContainsFunc_int64__lim_isRow_fn1__lim_isLimit_local : SumsLocal E_slices_ContainsFunc_int64__lim_isRow_fn1__lim_isLimit.sums := sumsOf_local (List.forall_mem_cons.2 ⟨R_slices_IndexFunc_int64__lim_isRow_fn1__lim_isLimit_local, List.forall_mem_nil _⟩)
def as_slices_ContainsFunc_int64__lim_isRow_fn1__lim_isLimit : List AS := [.c (.dat false (.int .i64)), .fn 112 [[.fn 90]]]
def rs_slices_ContainsFunc_int64__lim_isRow_fn1__lim_isLimit : RS := .c (.bool)
def pk_slices_ContainsFunc_int64__lim_isRow_fn1__lim_isLimit : Bool → RL rs_slices_ContainsFunc_int64__lim_isRow_fn1__lim_isLimit.cells := fun x => (x, ())
def up_slices_ContainsFunc_int64__lim_isRow_fn1__lim_isLimit : RL rs_slices_ContainsFunc_int64__lim_isRow_fn1__lim_isLimit.cells → Bool := fun d => d.1
def R_slices_ContainsFunc_int64__lim_isRow_fn1__lim_isLimit : Nat × Entry := (111, fun k nm args h => entry as_slices_ContainsFunc_int64__lim_isRow_fn1__lim_isLimit rs_slices_ContainsFunc_int64__lim_isRow_fn1__lim_isLimit (fun d => slices_ContainsFunc_int64__lim_isRow_fn1__lim_isLimit k d.1) pk_slices_ContainsFunc_int64__lim_isRow_fn1__lim_isLimit nm args h)
theorem slices_ContainsFunc_int64__lim_isRow_fn1__lim_isLimit_ev (k : Nat) (d : AD as_slices_ContainsFunc_int64__lim_isRow_fn1__lim_isLimit) : evF E_slices_ContainsFunc_int64__lim_isRow_fn1__lim_isLimit A_slices_ContainsFunc_int64__lim_isRow_fn1__lim_isLimit k 1000 0 Proofs.Try.f111 (absArgs as_slices_ContainsFunc_int64__lim_isRow_fn1__lim_isLimit d).1 (absArgs as_slices_ContainsFunc_int64__lim_isRow_fn1__lim_isLimit d).2 (outM rs_slices_ContainsFunc_int64__lim_isRow_fn1__lim_isLimit up_slices_ContainsFunc_int64__lim_isRow_fn1__lim_isLimit) = slices_ContainsFunc_int64__lim_isRow_fn1__lim_isLimit k d.1 := by
  obtain ⟨_, _, _⟩ := d
  kernel_rfl
theorem R_slices_ContainsFunc_int64__lim_isRow_fn1__lim_isLimit_ok : EntryOK Proofs.Try.prog R_slices_ContainsFunc_int64__lim_isRow_fn1__lim_isLimit := fun k _ _ _ _ _ hy =>
  entry_sound (unpack := up_slices_ContainsFunc_int64__lim_isRow_fn1__lim_isLimit) (A := A_slices_ContainsFunc_int64__lim_isRow_fn1__lim_isLimit) (k := k) (pre := 1000) (na := 0) (E := E_slices_ContainsFunc_int64__lim_isRow_fn1__lim_isLimit) E_slices_ContainsFunc_int64__lim_isRow_fn1__lim_isLimit_ok E_slices_ContainsFunc_int64__lim_isRow_fn1__lim_isLimit_local mixed_orders (f := 111) (fn := Proofs.Try.f111) (by kernel_rfl) (body_loops (loopsOK_none (by kernel_rfl))) (enters (fn := Proofs.Try.f111) (by kernel_rfl) (by kernel_rfl) (by kernel_rfl)) (fun _ => rfl) (slices_ContainsFunc_int64__lim_isRow_fn1__lim_isLimit_ev k) hy
theorem R_slices_ContainsFunc_int64__lim_isRow_fn1__lim_isLimit_local : EntryLocal R_slices_ContainsFunc_int64__lim_isRow_fn1__lim_isLimit.2 := entry_local (S := fun k (d : AD as_slices_ContainsFunc_int64__lim_isRow_fn1__lim_isLimit) => slices_ContainsFunc_int64__lim_isRow_fn1__lim_isLimit k d.1)

/-! ### giro/lim.isRow -/
noncomputable def E_lim_isRow__lim_isLimit : Env := ⟨Proofs.Try.prog, fun _ => false, sumsOf [R_slices_ContainsFunc_int64__lim_isRow_fn1__lim_isLimit]⟩
def A_lim_isRow__lim_isLimit : Notes := ⟨[], []⟩
theorem E_lim_isRow__lim_isLimit_ok : EnvOK E_lim_isRow__lim_isLimit := ⟨eqOK_none, sumsOf_ok (List.forall_mem_cons.2 ⟨R_slices_ContainsFunc_int64__lim_isRow_fn1__lim_isLimit_ok, List.forall_mem_nil _⟩)⟩
theorem E_lim_isRow__lim_isLimit_local : SumsLocal E_lim_isRow__lim_isLimit.sums := sumsOf_local (List.forall_mem_cons.2 ⟨R_slices_ContainsFunc_int64__lim_isRow_fn1__lim_isLimit_local, List.forall_mem_nil _⟩)
def as_lim_isRow__lim_isLimit : List AS := [.c (.dat false (.int .i64)), .c (.int .i64), .c (.fn 90)]
def rs_lim_isRow__lim_isLimit : RS := .c (.bool)
def pk_lim_isRow__lim_isLimit : Bool → RL rs_lim_isRow__lim_isLimit.cells := fun x => (x, ())
def up_lim_isRow__lim_isLimit : RL rs_lim_isRow__lim_isLimit.cells → Bool := fun d => d.1
def R_lim_isRow__lim_isLimit : Nat × Entry := (91, fun k nm args h => entry as_lim_isRow__lim_isLimit rs_lim_isRow__lim_isLimit (fun d => lim_isRow__lim_isLimit k d.1 d.2.1) pk_lim_isRow__lim_isLimit nm args h)
theorem lim_isRow__lim_isLimit_ev (k : Nat) (d : AD as_lim_isRow__lim_isLimit) : evF E_lim_isRow__lim_isLimit A_lim_isRow__lim_isLimit k 1000 0 Proofs.Try.f91 (absArgs as_lim_isRow__lim_isLimit d).1 (absArgs as_lim_isRow__lim_isLimit d).2 (outM rs_lim_isRow__lim_isLimit up_lim_isRow__lim_isLimit) = lim_isRow__lim_isLimit k d.1 d.2.1 := by
  obtain ⟨_, _, _, _⟩ := d
  kernel_rfl
theorem R_lim_isRow__lim_isLimit_ok : EntryOK Proofs.Try.prog R_lim_isRow__lim_isLimit := fun k _ _ _ _ _ hy =>
  entry_sound (unpack := up_lim_isRow__lim_isLimit) (A := A_lim_isRow__lim_isLimit) (k := k) (pre := 1000) (na := 0) (E := E_lim_isRow__lim_isLimit) E_lim_isRow__lim_isLimit_ok E_lim_isRow__lim_isLimit_local mixed_orders (f := 91) (fn := Proofs.Try.f91) (by kernel_rfl) (body_loops (loopsOK_none (by kernel_rfl))) (enters (fn := Proofs.Try.f91) (by kernel_rfl) (by kernel_rfl) (by kernel_rfl)) (fun _ => rfl) (lim_isRow__lim_isLimit_ev k) hy
theorem R_lim_isRow__lim_isLimit_local : EntryLocal R_lim_isRow__lim_isLimit.2 := entry_local (S := fun k (d : AD as_lim_isRow__lim_isLimit) => lim_isRow__lim_isLimit k d.1 d.2.1)

/-! ### giro/lim.isSquare -/
noncomputable def E_lim_isSquare__lim_isLimit : Env := ⟨Proofs.Try.prog, fun _ => false, sumsOf [R_lim_isRow__lim_isLimit]⟩
def I_lim_isSquare__lim_isLimit_L0 : Spec := ⟨[(1, .c (.int .i64)), (2, .c (.lit (.fn 90 []))), (13, .c (.dat false (.sl (.int .i64)))), (14, .c (.int .i64)), (15, .c (.int .i64))], [], []⟩
def O_lim_isSquare__lim_isLimit_L0 : List (Ex × Spec) := [(.exit 0, ⟨[], [], []⟩), (.ret, ⟨[(6, .c (.bool))], [], []⟩)]
def T_lim_isSquare__lim_isLimit_L0 : OutD O_lim_isSquare__lim_isLimit_L0 → Unit ⊕ Bool
 | .inl d => .inl ()
 | .inr d => .inr d.1.1.1
def e_lim_isSquare__lim_isLimit_L0 (base : Nat) (x : Unit ⊕ Bool) (R : Type) (K : Ex → St → Option R) : Option R := match x with
 | .inl x => K (.exit 0) (stOf base ⟨[], [], []⟩ ((), ()))
 | .inr x => K .ret (stOf base ⟨[(6, .c (.bool))], [], []⟩ (((x, ()), ()), ()))
def L_lim_isSquare__lim_isLimit_L0 : LoopSum := ⟨I_lim_isSquare__lim_isLimit_L0, O_lim_isSquare__lim_isLimit_L0, Unit ⊕ Bool, fun k d => lim_isSquare__lim_isLimit_L0 k k d.1.1.1 d.1.2.2.1.1 d.1.2.2.2.1.1 d.1.2.2.2.2.1.1, e_lim_isSquare__lim_isLimit_L0⟩
def A_lim_isSquare__lim_isLimit : Notes := ⟨[], [(4, L_lim_isSquare__lim_isLimit_L0)]⟩
theorem E_lim_isSquare__lim_isLimit_ok : EnvOK E_lim_isSquare__lim_isLimit := ⟨eqOK_none, sumsOf_ok (List.forall_mem_cons.2 ⟨R_lim_isRow__lim_isLimit_ok, List.forall_mem_nil _⟩)⟩
theorem E_lim_isSquare__lim_isLimit_local : SumsLocal E_lim_isSquare__lim_isLimit.sums := sumsOf_local (List.forall_mem_cons.2 ⟨R_lim_isRow__lim_isLimit_local, List.forall_mem_nil _⟩)
theorem lim_isSquare__lim_isLimit_L0_step (k : Nat) (rec : Int → List (List Int) → Int → Int → Option (Unit ⊕ Bool)) (d : I_lim_isSquare__lim_isLimit_L0.den) : lim_isSquare__lim_isLimit_L0b k rec d.1.1.1 d.1.2.2.1.1 d.1.2.2.2.1.1 d.1.2.2.2.2.1.1 = evC E_lim_isSquare__lim_isLimit A_lim_isSquare__lim_isLimit k 1000 0 25 (loopAt (bodyOf Proofs.Try.f89) 0) (stOf (1000 + loopBase) I_lim_isSquare__lim_isLimit_L0 d) (roundK 1000 I_lim_isSquare__lim_isLimit_L0 O_lim_isSquare__lim_isLimit_L0 T_lim_isSquare__lim_isLimit_L0 fun d => rec d.1.1.1 d.1.2.2.1.1 d.1.2.2.2.1.1 d.1.2.2.2.2.1.1) := by
  obtain ⟨⟨⟨_, _⟩, _, ⟨_, _⟩, ⟨_, _⟩, ⟨_, _⟩, _⟩, _⟩ := d
  kernel_rfl
theorem lim_isSquare__lim_isLimit_L0_ok : LoopOK Proofs.Try.prog 1000 0 25 (loopAt (bodyOf Proofs.Try.f89) 0) L_lim_isSquare__lim_isLimit_L0 :=
  loop_sound (A := A_lim_isSquare__lim_isLimit) (inS := I_lim_isSquare__lim_isLimit_L0) (outs := O_lim_isSquare__lim_isLimit_L0) E_lim_isSquare__lim_isLimit_ok E_lim_isSquare__lim_isLimit_local mixed_orders (loopsOK_none (by kernel_rfl)) T_lim_isSquare__lim_isLimit_L0 e_lim_isSquare__lim_isLimit_L0 (by intro o R K; rcases o with o | o <;> rfl) (fun k n d => lim_isSquare__lim_isLimit_L0 k n d.1.1.1 d.1.2.2.1.1 d.1.2.2.2.1.1 d.1.2.2.2.2.1.1) (fun _ _ => rfl) (fun k n d => lim_isSquare__lim_isLimit_L0_step k (lim_isSquare__lim_isLimit_L0 k n) d)
def as_lim_isSquare__lim_isLimit : List AS := [.c (.dat false (.sl (.int .i64))), .c (.int .i64), .c (.fn 90)]
def rs_lim_isSquare__lim_isLimit : RS := .c (.bool)
def pk_lim_isSquare__lim_isLimit : Bool → RL rs_lim_isSquare__lim_isLimit.cells := fun x => (x, ())
def up_lim_isSquare__lim_isLimit : RL rs_lim_isSquare__lim_isLimit.cells → Bool := fun d => d.1
def R_lim_isSquare__lim_isLimit : Nat × Entry := (89, fun k nm args h => entry as_lim_isSquare__lim_isLimit rs_lim_isSquare__lim_isLimit (fun d => lim_isSquare__lim_isLimit k d.1 d.2.1) pk_lim_isSquare__lim_isLimit nm args h)
theorem lim_isSquare__lim_isLimit_ev (k : Nat) (d : AD as_lim_isSquare__lim_isLimit) : evF E_lim_isSquare__lim_isLimit A_lim_isSquare__lim_isLimit k 1000 0 Proofs.Try.f89 (absArgs as_lim_isSquare__lim_isLimit d).1 (absArgs as_lim_isSquare__lim_isLimit d).2 (outM rs_lim_isSquare__lim_isLimit up_lim_isSquare__lim_isLimit) = lim_isSquare__lim_isLimit k d.1 d.2.1 := by
  obtain ⟨_, _, _, _⟩ := d
  kernel_rfl
theorem R_lim_isSquare__lim_isLimit_ok : EntryOK Proofs.Try.prog R_lim_isSquare__lim_isLimit := fun k _ _ _ _ _ hy =>
  entry_sound (unpack := up_lim_isSquare__lim_isLimit) (A := A_lim_isSquare__lim_isLimit) (k := k) (pre := 1000) (na := 0) (E := E_lim_isSquare__lim_isLimit) E_lim_isSquare__lim_isLimit_ok E_lim_isSquare__lim_isLimit_local mixed_orders (f := 89) (fn := Proofs.Try.f89) (by kernel_rfl) (body_loops (loopsOK_of (n := 1) (by kernel_rfl) fun i hi => match i, hi with | 0, _ => ⟨L_lim_isSquare__lim_isLimit_L0, by kernel_rfl, lim_isSquare__lim_isLimit_L0_ok⟩ | i + 1, hi => absurd hi (by omega))) (enters (fn := Proofs.Try.f89) (by kernel_rfl) (by kernel_rfl) (by kernel_rfl)) (fun _ => rfl) (lim_isSquare__lim_isLimit_ev k) hy
theorem R_lim_isSquare__lim_isLimit_local : EntryLocal R_lim_isSquare__lim_isLimit.2 := entry_local (S := fun k (d : AD as_lim_isSquare__lim_isLimit) => lim_isSquare__lim_isLimit k d.1 d.2.1)

/-! ### giro/lim.isNet -/
noncomputable def E_lim_isNet : Env := ⟨Proofs.Try.prog, fun _ => false, sumsOf []⟩
def A_lim_isNet : Notes := ⟨[], []⟩
theorem E_lim_isNet_ok : EnvOK E_lim_isNet := ⟨eqOK_none, sumsOf_ok (List.forall_mem_nil _)⟩
theorem E_lim_isNet_local : SumsLocal E_lim_isNet.sums := sumsOf_local (List.forall_mem_nil _)
def as_lim_isNet : List AS := [.c (.int .i64)]
def rs_lim_isNet : RS := .c (.bool)
def pk_lim_isNet : Bool → RL rs_lim_isNet.cells := fun x => (x, ())
def up_lim_isNet : RL rs_lim_isNet.cells → Bool := fun d => d.1
def R_lim_isNet : Nat × Entry := (92, fun k nm args h => entry as_lim_isNet rs_lim_isNet (fun d => lim_isNet k d.1) pk_lim_isNet nm args h)
theorem lim_isNet_ev (k : Nat) (d : AD as_lim_isNet) : evF E_lim_isNet A_lim_isNet k 1000 0 Proofs.Try.f92 (absArgs as_lim_isNet d).1 (absArgs as_lim_isNet d).2 (outM rs_lim_isNet up_lim_isNet) = lim_isNet k d.1 := by
  obtain ⟨_, _⟩ := d
  kernel_rfl
theorem R_lim_isNet_ok : EntryOK Proofs.Try.prog R_lim_isNet := fun k _ _ _ _ _ hy =>
  entry_sound (unpack := up_lim_isNet) (A := A_lim_isNet) (k := k) (pre := 1000) (na := 0) (E := E_lim_isNet) E_lim_isNet_ok E_lim_isNet_local mixed_orders (f := 92) (fn := Proofs.Try.f92) (by kernel_rfl) (body_loops (loopsOK_none (by kernel_rfl))) (enters (fn := Proofs.Try.f92) (by kernel_rfl) (by kernel_rfl) (by kernel_rfl)) (fun _ => rfl) (lim_isNet_ev k) hy
theorem R_lim_isNet_local : EntryLocal R_lim_isNet.2 := entry_local (S := fun k (d : AD as_lim_isNet) => lim_isNet k d.1)

/-! ### giro/lim.isRow$1 -/
noncomputable def E_lim_isRow_fn1__lim_isNet : Env := ⟨Proofs.Try.prog, fun _ => false, sumsOf [R_lim_isNet]⟩
def A_lim_isRow_fn1__lim_isNet : Notes := ⟨[], []⟩
theorem E_lim_isRow_fn1__lim_isNet_ok : EnvOK E_lim_isRow_fn1__lim_isNet := ⟨eqOK_none, sumsOf_ok (List.forall_mem_cons.2 ⟨R_lim_isNet_ok, List.forall_mem_nil _⟩)⟩
theorem E_lim_isRow_fn1__lim_isNet_local : SumsLocal E_lim_isRow_fn1__lim_isNet.sums := sumsOf_local (List.forall_mem_cons.2 ⟨R_lim_isNet_local, List.forall_mem_nil _⟩)
def as_lim_isRow_fn1__lim_isNet : List AS := [.c (.int .i64), .ptr [.fn 92]]
def rs_lim_isRow_fn1__lim_isNet : RS := .c (.bool)
def pk_lim_isRow_fn1__lim_isNet : Bool → RL rs_lim_isRow_fn1__lim_isNet.cells := fun x => (x, ())
def up_lim_isRow_fn1__lim_isNet : RL rs_lim_isRow_fn1__lim_isNet.cells → Bool := fun d => d.1
def R_lim_isRow_fn1__lim_isNet : Nat × Entry := (112, fun k nm args h => entry as_lim_isRow_fn1__lim_isNet rs_lim_isRow_fn1__lim_isNet (fun d => lim_isRow_fn1__lim_isNet k d.1) pk_lim_isRow_fn1__lim_isNet nm args h)
theorem lim_isRow_fn1__lim_isNet_ev (k : Nat) (d : AD as_lim_isRow_fn1__lim_isNet) : evF E_lim_isRow_fn1__lim_isNet A_lim_isRow_fn1__lim_isNet k 1000 0 Proofs.Try.f112 (absArgs as_lim_isRow_fn1__lim_isNet d).1 (absArgs as_lim_isRow_fn1__lim_isNet d).2 (outM rs_lim_isRow_fn1__lim_isNet up_lim_isRow_fn1__lim_isNet) = lim_isRow_fn1__lim_isNet k d.1 := by
  obtain ⟨_, _, _⟩ := d
  kernel_rfl
theorem R_lim_isRow_fn1__lim_isNet_ok : EntryOK Proofs.Try.prog R_lim_isRow_fn1__lim_isNet := fun k _ _ _ _ _ hy =>
  entry_sound (unpack := up_lim_isRow_fn1__lim_isNet) (A := A_lim_isRow_fn1__lim_isNet) (k := k) (pre := 1000) (na := 0) (E := E_lim_isRow_fn1__lim_isNet) E_lim_isRow_fn1__lim_isNet_ok E_lim_isRow_fn1__lim_isNet_local mixed_orders (f := 112) (fn := Proofs.Try.f112) (by kernel_rfl) (body_loops (loopsOK_none (by kernel_rfl))) (enters (fn := Proofs.Try.f112) (by kernel_rfl) (by kernel_rfl) (by kernel_rfl)) (fun _ => rfl) (lim_isRow_fn1__lim_isNet_ev k) hy
theorem R_lim_isRow_fn1__lim_isNet_local : EntryLocal R_lim_isRow_fn1__lim_isNet.2 := entry_local (S := fun k (d : AD as_lim_isRow_fn1__lim_isNet) => lim_isRow_fn1__lim_isNet k d.1)

/-! ### slices.IndexFunc[[]int64,int64] -/
noncomputable def E_slices_IndexFunc_int64__lim_isRow_fn1__lim_isNet : Env := ⟨Proofs.Try.prog, fun _ => false, sumsOf [R_lim_isRow_fn1__lim_isNet]⟩
def I_slices_IndexFunc_int64__lim_isRow_fn1__lim_isNet_L0 : Spec := ⟨[(0, .c (.dat false (.int .i64))), (1, .c (.lit (.fn 112 [1001000]))), (7, .c (.int .i64)), (8, .c (.int .i64))], [.robox [.lit (.fn 92 [])]], []⟩
def O_slices_IndexFunc_int64__lim_isRow_fn1__lim_isNet_L0 : List (Ex × Spec) := [(.exit 0, ⟨[], [], []⟩), (.ret, ⟨[(4, .c (.int .i64))], [], []⟩)]
def T_slices_IndexFunc_int64__lim_isRow_fn1__lim_isNet_L0 : OutD O_slices_IndexFunc_int64__lim_isRow_fn1__lim_isNet_L0 → Unit ⊕ Int
 | .inl d => .inl ()
 | .inr d => .inr d.1.1.1
def e_slices_IndexFunc_int64__lim_isRow_fn1__lim_isNet_L0 (base : Nat) (x : Unit ⊕ Int) (R : Type) (K : Ex → St → Option R) : Option R := match x with
 | .inl x => K (.exit 0) (stOf base ⟨[], [], []⟩ ((), ()))
 | .inr x => K .ret (stOf base ⟨[(4, .c (.int .i64))], [], []⟩ (((x, ()), ()), ()))
def L_slices_IndexFunc_int64__lim_isRow_fn1__lim_isNet_L0 : LoopSum := ⟨I_slices_IndexFunc_int64__lim_isRow_fn1__lim_isNet_L0, O_slices_IndexFunc_int64__lim_isRow_fn1__lim_isNet_L0, Unit ⊕ Int, fun k d => slices_IndexFunc_int64__lim_isRow_fn1__lim_isNet_L0 k k d.1.1.1 d.1.2.2.1.1 d.1.2.2.2.1.1, e_slices_IndexFunc_int64__lim_isRow_fn1__lim_isNet_L0⟩
def A_slices_IndexFunc_int64__lim_isRow_fn1__lim_isNet : Notes := ⟨[], [(2, L_slices_IndexFunc_int64__lim_isRow_fn1__lim_isNet_L0)]⟩
theorem E_slices_IndexFunc_int64__lim_isRow_fn1__lim_isNet_ok : EnvOK E_slices_IndexFunc_int64__lim_isRow_fn1__lim_isNet := ⟨eqOK_none, sumsOf_ok (List.forall_mem_cons.2 ⟨R_lim_isRow_fn1__lim_isNet_ok, List.forall_mem_nil _⟩)⟩
theorem E_slices_IndexFunc_int64__lim_isRow_fn1__lim_isNet_local : SumsLocal E_slices_IndexFunc_int64__lim_isRow_fn1__lim_isNet.sums := sumsOf_local (List.forall_mem_cons.2 ⟨R_lim_isRow_fn1__lim_isNet_local, List.forall_mem_nil _⟩)
theorem slices_IndexFunc_int64__lim_isRow_fn1__lim_isNet_L0_step (k : Nat) (rec : List Int → Int → Int → Option (Unit ⊕ Int)) (d : I_slices_IndexFunc_int64__lim_isRow_fn1__lim_isNet_L0.den) : slices_IndexFunc_int64__lim_isRow_fn1__lim_isNet_L0b k rec d.1.1.1 d.1.2.2.1.1 d.1.2.2.2.1.1 = evC E_slices_IndexFunc_int64__lim_isRow_fn1__lim_isNet A_slices_IndexFunc_int64__lim_isRow_fn1__lim_isNet k 1000 0 19 (loopAt (bodyOf Proofs.Try.f129) 0) (stOf (1000 + loopBase) I_slices_IndexFunc_int64__lim_isRow_fn1__lim_isNet_L0 d) (roundK 1000 I_slices_IndexFunc_int64__lim_isRow_fn1__lim_isNet_L0 O_slices_IndexFunc_int64__lim_isRow_fn1__lim_isNet_L0 T_slices_IndexFunc_int64__lim_isRow_fn1__lim_isNet_L0 fun d => rec d.1.1.1 d.1.2.2.1.1 d.1.2.2.2.1.1) := by
  obtain ⟨⟨⟨_, _⟩, _, ⟨_, _⟩, ⟨_, _⟩, _⟩, ⟨_, _⟩⟩ := d
  kernel_rfl
theorem slices_IndexFunc_int64__lim_isRow_fn1__lim_isNet_L0_ok : LoopOK Proofs.Try.prog 1000 0 19 (loopAt (bodyOf Proofs.Try.f129) 0) L_slices_IndexFunc_int64__lim_isRow_fn1__lim_isNet_L0 :=
  loop_sound (A := A_slices_IndexFunc_int64__lim_isRow_fn1__lim_isNet) (inS := I_slices_IndexFunc_int64__lim_isRow_fn1__lim_isNet_L0) (outs := O_slices_IndexFunc_int64__lim_isRow_fn1__lim_isNet_L0) E_slices_IndexFunc_int64__lim_isRow_fn1__lim_isNet_ok E_slices_IndexFunc_int64__lim_isRow_fn1__lim_isNet_local mixed_orders (loopsOK_none (by kernel_rfl)) T_slices_IndexFunc_int64__lim_isRow_fn1__lim_isNet_L0 e_slices_IndexFunc_int64__lim_isRow_fn1__lim_isNet_L0 (by intro o R K; rcases o with o | o <;> rfl) (fun k n d => slices_IndexFunc_int64__lim_isRow_fn1__lim_isNet_L0 k n d.1.1.1 d.1.2.2.1.1 d.1.2.2.2.1.1) (fun _ _ => rfl) (fun k n d => slices_IndexFunc_int64__lim_isRow_fn1__lim_isNet_L0_step k (slices_IndexFunc_int64__lim_isRow_fn1__lim_isNet_L0 k n) d)
def as_slices_IndexFunc_int64__lim_isRow_fn1__lim_isNet : List AS := [.c (.dat false (.int .i64)), .fn 112 [[.fn 92]]]
def rs_slices_IndexFunc_int64__lim_isRow_fn1__lim_isNet : RS := .c (.int .i64)
def pk_slices_IndexFunc_int64__lim_isRow_fn1__lim_isNet : Int → RL rs_slices_IndexFunc_int64__lim_isRow_fn1__lim_isNet.cells := fun x => (x, ())
def up_slices_IndexFunc_int64__lim_isRow_fn1__lim_isNet : RL rs_slices_IndexFunc_int64__lim_isRow_fn1__lim_isNet.cells → Int := fun d => d.1
def R_slices_IndexFunc_int64__lim_isRow_fn1__lim_isNet : Nat × Entry := (129, fun k nm args h => entry as_slices_IndexFunc_int64__lim_isRow_fn1__lim_isNet rs_slices_IndexFunc_int64__lim_isRow_fn1__lim_isNet (fun d => slices_IndexFunc_int64__lim_isRow_fn1__lim_isNet k d.1) pk_slices_IndexFunc_int64__lim_isRow_fn1__lim_isNet nm args h)
theorem slices_IndexFunc_int64__lim_isRow_fn1__lim_isNet_ev (k : Nat) (d : AD as_slices_IndexFunc_int64__lim_isRow_fn1__lim_isNet) : evF E_slices_IndexFunc_int64__lim_isRow_fn1__lim_isNet A_slices_IndexFunc_int64__lim_isRow_fn1__lim_isNet k 1000 0 Proofs.Try.f129 (absArgs as_slices_IndexFunc_int64__lim_isRow_fn1__lim_isNet d).1 (absArgs as_slices_IndexFunc_int64__lim_isRow_fn1__lim_isNet d).2 (outM rs_slices_IndexFunc_int64__lim_isRow_fn1__lim_isNet up_slices_IndexFunc_int64__lim_isRow_fn1__lim_isNet) = slices_IndexFunc_int64__lim_isRow_fn1__lim_isNet k d.1 := by
  obtain ⟨_, _, _⟩ := d
  kernel_rfl
theorem R_slices_IndexFunc_int64__lim_isRow_fn1__lim_isNet_ok : EntryOK Proofs.Try.prog R_slices_IndexFunc_int64__lim_isRow_fn1__lim_isNet := fun k _ _ _ _ _ hy =>
  entry_sound (unpack := up_slices_IndexFunc_int64__lim_isRow_fn1__lim_isNet) (A := A_slices_IndexFunc_int64__lim_isRow_fn1__lim_isNet) (k := k) (pre := 1000) (na := 0) (E := E_slices_IndexFunc_int64__lim_isRow_fn1__lim_isNet) E_slices_IndexFunc_int64__lim_isRow_fn1__lim_isNet_ok E_slices_IndexFunc_int64__lim_isRow_fn1__lim_isNet_local mixed_orders (f := 129) (fn := Proofs.Try.f129) (by kernel_rfl) (body_loops (loopsOK_of (n := 1) (by kernel_rfl) fun i hi => match i, hi with | 0, _ => ⟨L_slices_IndexFunc_int64__lim_isRow_fn1__lim_isNet_L0, by kernel_rfl, slices_IndexFunc_int64__lim_isRow_fn1__lim_isNet_L0_ok⟩ | i + 1, hi => absurd hi (by omega))) (enters (fn := Proofs.Try.f129) (by kernel_rfl) (by kernel_rfl) (by kernel_rfl)) (fun _ => rfl) (slices_IndexFunc_int64__lim_isRow_fn1__lim_isNet_ev k) hy
theorem R_slices_IndexFunc_int64__lim_isRow_fn1__lim_isNet_local : EntryLocal R_slices_IndexFunc_int64__lim_isRow_fn1__lim_isNet.2 := entry_local (S := fun k (d : AD as_slices_IndexFunc_int64__lim_isRow_fn1__lim_isNet) => slices_IndexFunc_int64__lim_isRow_fn1__lim_isNet k d.1)

/-! ### slices.ContainsFunc[[]int64,int64] -/
noncomputable def E_slices_ContainsFunc_int64__lim_isRow_fn1__lim_isNet : Env := ⟨Proofs.Try.prog, fun _ => false, sumsOf [R_slices_IndexFunc_int64__lim_isRow_fn1__lim_isNet]⟩
def A_slices_ContainsFunc_int64__lim_isRow_fn1__lim_isNet : Notes := ⟨[], []⟩
theorem E_slices_ContainsFunc_int64__lim_isRow_fn1__lim_isNet_ok : EnvOK E_slices_ContainsFunc_int64__lim_isRow_fn1__lim_isNet := ⟨eqOK_none, sumsOf_ok (List.forall_mem_cons.2 ⟨R_slices_IndexFunc_int64__lim_isRow_fn1__lim_isNet_ok, List.forall_mem_nil _⟩)⟩
theorem E_slices_ContainsFunc_int64__lim_isRow_fn1__lim_isNet_local : SumsLocal E_slices_ContainsFunc_int64__lim_isRow_fn1__lim_isNet.sums := sumsOf_local (List.forall_mem_cons.2 ⟨R_slices_IndexFunc_int64__lim_isRow_fn1__lim_isNet_local, List.forall_mem_nil _⟩)
def as_slices_ContainsFunc_int64__lim_isRow_fn1__lim_isNet : List AS := [.c (.dat false (.int .i64)), .fn 112 [[.fn 92]]]
def rs_slices_ContainsFunc_int64__lim_isRow_fn1__lim_isNet : RS := .c (.bool)
def pk_slices_ContainsFunc_int64__lim_isRow_fn1__lim_isNet : Bool → RL rs_slices_ContainsFunc_int64__lim_isRow_fn1__lim_isNet.cells := fun x => (x, ())
def up_slices_ContainsFunc_int64__lim_isRow_fn1__lim_isNet : RL rs_slices_ContainsFunc_int64__lim_isRow_fn1__lim_isNet.cells → Bool := fun d => d.1
def R_slices_ContainsFunc_int64__lim_isRow_fn1__lim_isNet : Nat × Entry := (111, fun k nm args h => entry as_slices_ContainsFunc_int64__lim_isRow_fn1__lim_isNet rs_slices_ContainsFunc_int64__lim_isRow_fn1__lim_isNet (fun d => slices_ContainsFunc_int64__lim_isRow_fn1__lim_isNet k d.1) pk_slices_ContainsFunc_int64__lim_isRow_fn1__lim_isNet nm args h)
theorem slices_ContainsFunc_int64__lim_isRow_fn1__lim_isNet_ev (k : Nat) (d : AD as_slices_ContainsFunc_int64__lim_isRow_fn1__lim_isNet) : evF E_slices_ContainsFunc_int64__lim_isRow_fn1__lim_isNet A_slices_ContainsFunc_int64__lim_isRow_fn1__lim_isNet k 1000 0 Proofs.Try.f111 (absArgs as_slices_ContainsFunc_int64__lim_isRow_fn1__lim_isNet d).1 (absArgs as_slices_ContainsFunc_int64__lim_isRow_fn1__lim_isNet d).2 (outM rs_slices_ContainsFunc_int64__lim_isRow_fn1__lim_isNet up_slices_ContainsFunc_int64__lim_isRow_fn1__lim_isNet) = slices_ContainsFunc_int64__lim_isRow_fn1__lim_isNet k d.1 := by
  obtain ⟨_, _, _⟩ := d
  kernel_rfl
theorem R_slices_ContainsFunc_int64__lim_isRow_fn1__lim_isNet_ok : EntryOK Proofs.Try.prog R_slices_ContainsFunc_int64__lim_isRow_fn1__lim_isNet := fun k _ _ _ _ _ hy =>
  entry_sound (unpack := up_slices_ContainsFunc_int64__lim_isRow_fn1__lim_isNet) (A := A_slices_ContainsFunc_int64__lim_isRow_fn1__lim_isNet) (k := k) (pre := 1000) (na := 0) (E := E_slices_ContainsFunc_int64__lim_isRow_fn1__lim_isNet) E_slices_ContainsFunc_int64__lim_isRow_fn1__lim_isNet_ok E_slices_ContainsFunc_int64__lim_isRow_fn1__lim_isNet_local mixed_orders (f := 111) (fn := Proofs.Try.f111) (by kernel_rfl) (body_loops (loopsOK_none (by kernel_rfl))) (enters (fn := Proofs.Try.f111) (by kernel_rfl) (by kernel_rfl) (by kernel_rfl)) (fun _ => rfl) (slices_ContainsFunc_int64__lim_isRow_fn1__lim_isNet_ev k) hy
theorem R_slices_ContainsFunc_int64__lim_isRow_fn1__lim_isNet_local : EntryLocal R_slices_ContainsFunc_int64__lim_isRow_fn1__lim_isNet.2 := entry_local (S := fun k (d : AD as_slices_ContainsFunc_int64__lim_isRow_fn1__lim_isNet) => slices_ContainsFunc_int64__lim_isRow_fn1__lim_isNet k d.1)

/-! ### giro/lim.isRow -/
noncomputable def E_lim_isRow__lim_isNet : Env := ⟨Proofs.Try.prog, fun _ => false, sumsOf [R_slices_ContainsFunc_int64__lim_isRow_fn1__lim_isNet]⟩
def A_lim_isRow__lim_isNet : Notes := ⟨[], []⟩
theorem E_lim_isRow__lim_isNet_ok : EnvOK E_lim_isRow__lim_isNet := ⟨eqOK_none, sumsOf_ok (List.forall_mem_cons.2 ⟨R_slices_ContainsFunc_int64__lim_isRow_fn1__lim_isNet_ok, List.forall_mem_nil _⟩)⟩
theorem E_lim_isRow__lim_isNet_local : SumsLocal E_lim_isRow__lim_isNet.sums := sumsOf_local (List.forall_mem_cons.2 ⟨R_slices_ContainsFunc_int64__lim_isRow_fn1__lim_isNet_local, List.forall_mem_nil _⟩)
def as_lim_isRow__lim_isNet : List AS := [.c (.dat false (.int .i64)), .c (.int .i64), .c (.fn 92)]
def rs_lim_isRow__lim_isNet : RS := .c (.bool)
def pk_lim_isRow__lim_isNet : Bool → RL rs_lim_isRow__lim_isNet.cells := fun x => (x, ())
def up_lim_isRow__lim_isNet : RL rs_lim_isRow__lim_isNet.cells → Bool := fun d => d.1
def R_lim_isRow__lim_isNet : Nat × Entry := (91, fun k nm args h => entry as_lim_isRow__lim_isNet rs_lim_isRow__lim_isNet (fun d => lim_isRow__lim_isNet k d.1 d.2.1) pk_lim_isRow__lim_isNet nm args h)
theorem lim_isRow__lim_isNet_ev (k : Nat) (d : AD as_lim_isRow__lim_isNet) : evF E_lim_isRow__lim_isNet A_lim_isRow__lim_isNet k 1000 0 Proofs.Try.f91 (absArgs as_lim_isRow__lim_isNet d).1 (absArgs as_lim_isRow__lim_isNet d).2 (outM rs_lim_isRow__lim_isNet up_lim_isRow__lim_isNet) = lim_isRow__lim_isNet k d.1 d.2.1 := by
  obtain ⟨_, _, _, _⟩ := d
  kernel_rfl
theorem R_lim_isRow__lim_isNet_ok : EntryOK Proofs.Try.prog R_lim_isRow__lim_isNet := fun k _ _ _ _ _ hy =>
  entry_sound (unpack := up_lim_isRow__lim_isNet) (A := A_lim_isRow__lim_isNet) (k := k) (pre := 1000) (na := 0) (E := E_lim_isRow__lim_isNet) E_lim_isRow__lim_isNet_ok E_lim_isRow__lim_isNet_local mixed_orders (f := 91) (fn := Proofs.Try.f91) (by kernel_rfl) (body_loops (loopsOK_none (by kernel_rfl))) (enters (fn := Proofs.Try.f91) (by kernel_rfl) (by kernel_rfl) (by kernel_rfl)) (fun _ => rfl) (lim_isRow__lim_isNet_ev k) hy
theorem R_lim_isRow__lim_isNet_local : EntryLocal R_lim_isRow__lim_isNet.2 := entry_local (S := fun k (d : AD as_lim_isRow__lim_isNet) => lim_isRow__lim_isNet k d.1 d.2.1)

/-! ### giro/lim.isSquare -/
noncomputable def E_lim_isSquare__lim_isNet : Env := ⟨Proofs.Try.prog, fun _ => false, sumsOf [R_lim_isRow__lim_isNet]⟩
def I_lim_isSquare__lim_isNet_L0 : Spec := ⟨[(1, .c (.int .i64)), (2, .c (.lit (.fn 92 []))), (13, .c (.dat false (.sl (.int .i64)))), (14, .c (.int .i64)), (15, .c (.int .i64))], [], []⟩
def O_lim_isSquare__lim_isNet_L0 : List (Ex × Spec) := [(.exit 0, ⟨[], [], []⟩), (.ret, ⟨[(6, .c (.bool))], [], []⟩)]
def T_lim_isSquare__lim_isNet_L0 : OutD O_lim_isSquare__lim_isNet_L0 → Unit ⊕ Bool
 | .inl d => .inl ()
 | .inr d => .inr d.1.1.1
def e_lim_isSquare__lim_isNet_L0 (base : Nat) (x : Unit ⊕ Bool) (R : Type) (K : Ex → St → Option R) : Option R := match x with
 | .inl x => K (.exit 0) (stOf base ⟨[], [], []⟩ ((), ()))
 | .inr x => K .ret (stOf base ⟨[(6, .c (.bool))], [], []⟩ (((x, ()), ()), ()))
def L_lim_isSquare__lim_isNet_L0 : LoopSum := ⟨I_lim_isSquare__lim_isNet_L0, O_lim_isSquare__lim_isNet_L0, Unit ⊕ Bool, fun k d => lim_isSquare__lim_isNet_L0 k k d.1.1.1 d.1.2.2.1.1 d.1.2.2.2.1.1 d.1.2.2.2.2.1.1, e_lim_isSquare__lim_isNet_L0⟩
def A_lim_isSquare__lim_isNet : Notes := ⟨[], [(4, L_lim_isSquare__lim_isNet_L0)]⟩
theorem E_lim_isSquare__lim_isNet_ok : EnvOK E_lim_isSquare__lim_isNet := ⟨eqOK_none, sumsOf_ok (List.forall_mem_cons.2 ⟨R_lim_isRow__lim_isNet_ok, List.forall_mem_nil _⟩)⟩
theorem E_lim_isSquare__lim_isNet_local : SumsLocal E_lim_isSquare__lim_isNet.sums := sumsOf_local (List.forall_mem_cons.2 ⟨R_lim_isRow__lim_isNet_local, List.forall_mem_nil _⟩)
theorem lim_isSquare__lim_isNet_L0_step (k : Nat) (rec : Int → List (List Int) → Int → Int → Option (Unit ⊕ Bool)) (d : I_lim_isSquare__lim_isNet_L0.den) : lim_isSquare__lim_isNet_L0b k rec d.1.1.1 d.1.2.2.1.1 d.1.2.2.2.1.1 d.1.2.2.2.2.1.1 = evC E_lim_isSquare__lim_isNet A_lim_isSquare__lim_isNet k 1000 0 25 (loopAt (bodyOf Proofs.Try.f89) 0) (stOf (1000 + loopBase) I_lim_isSquare__lim_isNet_L0 d) (roundK 1000 I_lim_isSquare__lim_isNet_L0 O_lim_isSquare__lim_isNet_L0 T_lim_isSquare__lim_isNet_L0 fun d => rec d.1.1.1 d.1.2.2.1.1 d.1.2.2.2.1.1 d.1.2.2.2.2.1.1) := by
  obtain ⟨⟨⟨_, _⟩, _, ⟨_, _⟩, ⟨_, _⟩, ⟨_, _⟩, _⟩, _⟩ := d
  kernel_rfl
theorem lim_isSquare__lim_isNet_L0_ok : LoopOK Proofs.Try.prog 1000 0 25 (loopAt (bodyOf Proofs.Try.f89) 0) L_lim_isSquare__lim_isNet_L0 :=
  loop_sound (A := A_lim_isSquare__lim_isNet) (inS := I_lim_isSquare__lim_isNet_L0) (outs := O_lim_isSquare__lim_isNet_L0) E_lim_isSquare__lim_isNet_ok E_lim_isSquare__lim_isNet_local mixed_orders (loopsOK_none (by kernel_rfl)) T_lim_isSquare__lim_isNet_L0 e_lim_isSquare__lim_isNet_L0 (by intro o R K; rcases o with o | o <;> rfl) (fun k n d => lim_isSquare__lim_isNet_L0 k n d.1.1.1 d.1.2.2.1.1 d.1.2.2.2.1.1 d.1.2.2.2.2.1.1) (fun _ _ => rfl) (fun k n d => lim_isSquare__lim_isNet_L0_step k (lim_isSquare__lim_isNet_L0 k n) d)
def as_lim_isSquare__lim_isNet : List AS := [.c (.dat false (.sl (.int .i64))), .c (.int .i64), .c (.fn 92)]
def rs_lim_isSquare__lim_isNet : RS := .c (.bool)
def pk_lim_isSquare__lim_isNet : Bool → RL rs_lim_isSquare__lim_isNet.cells := fun x => (x, ())
def up_lim_isSquare__lim_isNet : RL rs_lim_isSquare__lim_isNet.cells → Bool := fun d => d.1
def R_lim_isSquare__lim_isNet : Nat × Entry := (89, fun k nm args h => entry as_lim_isSquare__lim_isNet rs_lim_isSquare__lim_isNet (fun d => lim_isSquare__lim_isNet k d.1 d.2.1) pk_lim_isSquare__lim_isNet nm args h)
theorem lim_isSquare__lim_isNet_ev (k : Nat) (d : AD as_lim_isSquare__lim_isNet) : evF E_lim_isSquare__lim_isNet A_lim_isSquare__lim_isNet k 1000 0 Proofs.Try.f89 (absArgs as_lim_isSquare__lim_isNet d).1 (absArgs as_lim_isSquare__lim_isNet d).2 (outM rs_lim_isSquare__lim_isNet up_lim_isSquare__lim_isNet) = lim_isSquare__lim_isNet k d.1 d.2.1 := by
  obtain ⟨_, _, _, _⟩ := d
  kernel_rfl
theorem R_lim_isSquare__lim_isNet_ok : EntryOK Proofs.Try.prog R_lim_isSquare__lim_isNet := fun k _ _ _ _ _ hy =>
  entry_sound (unpack := up_lim_isSquare__lim_isNet) (A := A_lim_isSquare__lim_isNet) (k := k) (pre := 1000) (na := 0) (E := E_lim_isSquare__lim_isNet) E_lim_isSquare__lim_isNet_ok E_lim_isSquare__lim_isNet_local mixed_orders (f := 89) (fn := Proofs.Try.f89) (by kernel_rfl) (body_loops (loopsOK_of (n := 1) (by kernel_rfl) fun i hi => match i, hi with | 0, _ => ⟨L_lim_isSquare__lim_isNet_L0, by kernel_rfl, lim_isSquare__lim_isNet_L0_ok⟩ | i + 1, hi => absurd hi (by omega))) (enters (fn := Proofs.Try.f89) (by kernel_rfl) (by kernel_rfl) (by kernel_rfl)) (fun _ => rfl) (lim_isSquare__lim_isNet_ev k) hy
theorem R_lim_isSquare__lim_isNet_local : EntryLocal R_lim_isSquare__lim_isNet.2 := entry_local (S := fun k (d : AD as_lim_isSquare__lim_isNet) => lim_isSquare__lim_isNet k d.1 d.2.1)

/-! ### giro/lim.isTurned -/
noncomputable def E_lim_isTurned : Env := ⟨Proofs.Try.prog, fun _ => false, sumsOf []⟩
def I_lim_isTurned_L1 : Spec := ⟨[(0, .c (.dat false (.sl (.int .i64)))), (3, .c (.int .i64)), (7, .c (.dat false (.sl (.int .i64)))), (8, .c (.int .i64)), (9, .c (.int .i64)), (14, .c (.dat false (.int .i64))), (15, .c (.int .i64)), (16, .c (.int .i64))], [], []⟩
def O_lim_isTurned_L1 : List (Ex × Spec) := [(.exit 2, ⟨[(0, .c (.dat false (.sl (.int .i64)))), (7, .c (.dat false (.sl (.int .i64)))), (8, .c (.int .i64)), (9, .c (.int .i64))], [], []⟩), (.ret, ⟨[(2, .c (.bool))], [], []⟩)]
def T_lim_isTurned_L1 : OutD O_lim_isTurned_L1 → ((List (List Int)) × (List (List Int)) × Int × Int) ⊕ Bool
 | .inl d => .inl (d.1.1.1, d.1.2.1.1, d.1.2.2.1.1, d.1.2.2.2.1.1)
 | .inr d => .inr d.1.1.1
def e_lim_isTurned_L1 (base : Nat) (x : ((List (List Int)) × (List (List Int)) × Int × Int) ⊕ Bool) (R : Type) (K : Ex → St → Option R) : Option R := match x with
 | .inl x => K (.exit 2) (stOf base ⟨[(0, .c (.dat false (.sl (.int .i64)))), (7, .c (.dat false (.sl (.int .i64)))), (8, .c (.int .i64)), (9, .c (.int .i64))], [], []⟩ (((x.1, ()), (x.2.1, ()), (x.2.2.1, ()), (x.2.2.2, ()), ()), ()))
 | .inr x => K .ret (stOf base ⟨[(2, .c (.bool))], [], []⟩ (((x, ()), ()), ()))
def L_lim_isTurned_L1 : LoopSum := ⟨I_lim_isTurned_L1, O_lim_isTurned_L1, ((List (List Int)) × (List (List Int)) × Int × Int) ⊕ Bool, fun k d => lim_isTurned_L1 k k d.1.1.1 d.1.2.1.1 d.1.2.2.1.1 d.1.2.2.2.1.1 d.1.2.2.2.2.1.1 d.1.2.2.2.2.2.1.1 d.1.2.2.2.2.2.2.1.1 d.1.2.2.2.2.2.2.2.1.1, e_lim_isTurned_L1⟩
def I_lim_isTurned_L0 : Spec := ⟨[(0, .c (.dat false (.sl (.int .i64)))), (7, .c (.dat false (.sl (.int .i64)))), (8, .c (.int .i64)), (9, .c (.int .i64))], [], []⟩
def O_lim_isTurned_L0 : List (Ex × Spec) := [(.exit 0, ⟨[], [], []⟩), (.ret, ⟨[(2, .c (.bool))], [], []⟩)]
def T_lim_isTurned_L0 : OutD O_lim_isTurned_L0 → Unit ⊕ Bool
 | .inl d => .inl ()
 | .inr d => .inr d.1.1.1
def e_lim_isTurned_L0 (base : Nat) (x : Unit ⊕ Bool) (R : Type) (K : Ex → St → Option R) : Option R := match x with
 | .inl x => K (.exit 0) (stOf base ⟨[], [], []⟩ ((), ()))
 | .inr x => K .ret (stOf base ⟨[(2, .c (.bool))], [], []⟩ (((x, ()), ()), ()))
def L_lim_isTurned_L0 : LoopSum := ⟨I_lim_isTurned_L0, O_lim_isTurned_L0, Unit ⊕ Bool, fun k d => lim_isTurned_L0 k k d.1.1.1 d.1.2.1.1 d.1.2.2.1.1 d.1.2.2.2.1.1, e_lim_isTurned_L0⟩
def A_lim_isTurned : Notes := ⟨[], [(5, L_lim_isTurned_L1), (2, L_lim_isTurned_L0)]⟩
theorem E_lim_isTurned_ok : EnvOK E_lim_isTurned := ⟨eqOK_none, sumsOf_ok (List.forall_mem_nil _)⟩
theorem E_lim_isTurned_local : SumsLocal E_lim_isTurned.sums := sumsOf_local (List.forall_mem_nil _)
theorem lim_isTurned_L1_step (k : Nat) (rec : List (List Int) → Int → List (List Int) → Int → Int → List Int → Int → Int → Option (((List (List Int)) × (List (List Int)) × Int × Int) ⊕ Bool)) (d : I_lim_isTurned_L1.den) : lim_isTurned_L1b k rec d.1.1.1 d.1.2.1.1 d.1.2.2.1.1 d.1.2.2.2.1.1 d.1.2.2.2.2.1.1 d.1.2.2.2.2.2.1.1 d.1.2.2.2.2.2.2.1.1 d.1.2.2.2.2.2.2.2.1.1 = evC E_lim_isTurned A_lim_isTurned k 1000 0 33 (loopAt (loopAt (bodyOf Proofs.Try.f93) 0) 0) (stOf (1000 + loopBase) I_lim_isTurned_L1 d) (roundK 1000 I_lim_isTurned_L1 O_lim_isTurned_L1 T_lim_isTurned_L1 fun d => rec d.1.1.1 d.1.2.1.1 d.1.2.2.1.1 d.1.2.2.2.1.1 d.1.2.2.2.2.1.1 d.1.2.2.2.2.2.1.1 d.1.2.2.2.2.2.2.1.1 d.1.2.2.2.2.2.2.2.1.1) := by
  obtain ⟨⟨⟨_, _⟩, ⟨_, _⟩, ⟨_, _⟩, ⟨_, _⟩, ⟨_, _⟩, ⟨_, _⟩, ⟨_, _⟩, ⟨_, _⟩, _⟩, _⟩ := d
  kernel_rfl
theorem lim_isTurned_L1_ok : LoopOK Proofs.Try.prog 1000 0 33 (loopAt (loopAt (bodyOf Proofs.Try.f93) 0) 0) L_lim_isTurned_L1 :=
  loop_sound (A := A_lim_isTurned) (inS := I_lim_isTurned_L1) (outs := O_lim_isTurned_L1) E_lim_isTurned_ok E_lim_isTurned_local mixed_orders (loopsOK_none (by kernel_rfl)) T_lim_isTurned_L1 e_lim_isTurned_L1 (by intro o R K; rcases o with o | o <;> rfl) (fun k n d => lim_isTurned_L1 k n d.1.1.1 d.1.2.1.1 d.1.2.2.1.1 d.1.2.2.2.1.1 d.1.2.2.2.2.1.1 d.1.2.2.2.2.2.1.1 d.1.2.2.2.2.2.2.1.1 d.1.2.2.2.2.2.2.2.1.1) (fun _ _ => rfl) (fun k n d => lim_isTurned_L1_step k (lim_isTurned_L1 k n) d)
theorem lim_isTurned_L0_step (k : Nat) (rec : List (List Int) → List (List Int) → Int → Int → Option (Unit ⊕ Bool)) (d : I_lim_isTurned_L0.den) : lim_isTurned_L0b k rec d.1.1.1 d.1.2.1.1 d.1.2.2.1.1 d.1.2.2.2.1.1 = evC E_lim_isTurned A_lim_isTurned k 1000 0 33 (loopAt (bodyOf Proofs.Try.f93) 0) (stOf (1000 + loopBase) I_lim_isTurned_L0 d) (roundK 1000 I_lim_isTurned_L0 O_lim_isTurned_L0 T_lim_isTurned_L0 fun d => rec d.1.1.1 d.1.2.1.1 d.1.2.2.1.1 d.1.2.2.2.1.1) := by
  obtain ⟨⟨⟨_, _⟩, ⟨_, _⟩, ⟨_, _⟩, ⟨_, _⟩, _⟩, _⟩ := d
  kernel_rfl
theorem lim_isTurned_L0_ok : LoopOK Proofs.Try.prog 1000 0 33 (loopAt (bodyOf Proofs.Try.f93) 0) L_lim_isTurned_L0 :=
  loop_sound (A := A_lim_isTurned) (inS := I_lim_isTurned_L0) (outs := O_lim_isTurned_L0) E_lim_isTurned_ok E_lim_isTurned_local mixed_orders (loopsOK_of (n := 1) (by kernel_rfl) fun i hi => match i, hi with | 0, _ => ⟨L_lim_isTurned_L1, by kernel_rfl, lim_isTurned_L1_ok⟩ | i + 1, hi => absurd hi (by omega)) T_lim_isTurned_L0 e_lim_isTurned_L0 (by intro o R K; rcases o with o | o <;> rfl) (fun k n d => lim_isTurned_L0 k n d.1.1.1 d.1.2.1.1 d.1.2.2.1.1 d.1.2.2.2.1.1) (fun _ _ => rfl) (fun k n d => lim_isTurned_L0_step k (lim_isTurned_L0 k n) d)
def as_lim_isTurned : List AS := [.c (.dat false (.sl (.int .i64)))]
def rs_lim_isTurned : RS := .c (.bool)
def pk_lim_isTurned : Bool → RL rs_lim_isTurned.cells := fun x => (x, ())
def up_lim_isTurned : RL rs_lim_isTurned.cells → Bool := fun d => d.1
def R_lim_isTurned : Nat × Entry := (93, fun k nm args h => entry as_lim_isTurned rs_lim_isTurned (fun d => lim_isTurned k d.1) pk_lim_isTurned nm args h)
theorem lim_isTurned_ev (k : Nat) (d : AD as_lim_isTurned) : evF E_lim_isTurned A_lim_isTurned k 1000 0 Proofs.Try.f93 (absArgs as_lim_isTurned d).1 (absArgs as_lim_isTurned d).2 (outM rs_lim_isTurned up_lim_isTurned) = lim_isTurned k d.1 := by
  obtain ⟨_, _⟩ := d
  kernel_rfl
theorem R_lim_isTurned_ok : EntryOK Proofs.Try.prog R_lim_isTurned := fun k _ _ _ _ _ hy =>
  entry_sound (unpack := up_lim_isTurned) (A := A_lim_isTurned) (k := k) (pre := 1000) (na := 0) (E := E_lim_isTurned) E_lim_isTurned_ok E_lim_isTurned_local mixed_orders (f := 93) (fn := Proofs.Try.f93) (by kernel_rfl) (body_loops (loopsOK_of (n := 1) (by kernel_rfl) fun i hi => match i, hi with | 0, _ => ⟨L_lim_isTurned_L0, by kernel_rfl, lim_isTurned_L0_ok⟩ | i + 1, hi => absurd hi (by omega))) (enters (fn := Proofs.Try.f93) (by kernel_rfl) (by kernel_rfl) (by kernel_rfl)) (fun _ => rfl) (lim_isTurned_ev k) hy
theorem R_lim_isTurned_local : EntryLocal R_lim_isTurned.2 := entry_local (S := fun k (d : AD as_lim_isTurned) => lim_isTurned k d.1)

/-! ### giro/lim.Is -/
noncomputable def E_lim_Is : Env := ⟨Proofs.Try.prog, fun _ => false, sumsOf [R_slices_ContainsFunc_Acct__lim_Is_fn1, R_lim_isSquare__lim_isLimit, R_lim_isRow__lim_isLimit, R_lim_isSquare__lim_isNet, R_lim_isTurned]⟩
def A_lim_Is : Notes := ⟨[], []⟩
theorem E_lim_Is_ok : EnvOK E_lim_Is := ⟨eqOK_none, sumsOf_ok (List.forall_mem_cons.2 ⟨R_slices_ContainsFunc_Acct__lim_Is_fn1_ok, List.forall_mem_cons.2 ⟨R_lim_isSquare__lim_isLimit_ok, List.forall_mem_cons.2 ⟨R_lim_isRow__lim_isLimit_ok, List.forall_mem_cons.2 ⟨R_lim_isSquare__lim_isNet_ok, List.forall_mem_cons.2 ⟨R_lim_isTurned_ok, List.forall_mem_nil _⟩⟩⟩⟩⟩)⟩
theorem E_lim_Is_local : SumsLocal E_lim_Is.sums := sumsOf_local (List.forall_mem_cons.2 ⟨R_slices_ContainsFunc_Acct__lim_Is_fn1_local, List.forall_mem_cons.2 ⟨R_lim_isSquare__lim_isLimit_local, List.forall_mem_cons.2 ⟨R_lim_isRow__lim_isLimit_local, List.forall_mem_cons.2 ⟨R_lim_isSquare__lim_isNet_local, List.forall_mem_cons.2 ⟨R_lim_isTurned_local, List.forall_mem_nil _⟩⟩⟩⟩⟩)
def as_lim_Is : List AS := [.agg [.dat false (.pair (.int .i64) (.pair (.int .i64) (.int .i64))), .dat false (.sl (.int .i64)), .dat false (.int .i64), .dat false (.sl (.int .i64))]]
def rs_lim_Is : RS := .c (.bool)
def pk_lim_Is : Bool → RL rs_lim_Is.cells := fun x => (x, ())
def up_lim_Is : RL rs_lim_Is.cells → Bool := fun d => d.1
def R_lim_Is : Nat × Entry := (59, fun k nm args h => entry as_lim_Is rs_lim_Is (fun d => lim_Is k d.1 d.2.1 d.2.2.1 d.2.2.2.1) pk_lim_Is nm args h)
theorem lim_Is_ev (k : Nat) (d : AD as_lim_Is) : evF E_lim_Is A_lim_Is k 1000 0 Proofs.Try.f59 (absArgs as_lim_Is d).1 (absArgs as_lim_Is d).2 (outM rs_lim_Is up_lim_Is) = lim_Is k d.1 d.2.1 d.2.2.1 d.2.2.2.1 := by
  obtain ⟨_, _, _, _, _⟩ := d
  kernel_rfl
theorem R_lim_Is_ok : EntryOK Proofs.Try.prog R_lim_Is := fun k _ _ _ _ _ hy =>
  entry_sound (unpack := up_lim_Is) (A := A_lim_Is) (k := k) (pre := 1000) (na := 0) (E := E_lim_Is) E_lim_Is_ok E_lim_Is_local mixed_orders (f := 59) (fn := Proofs.Try.f59) (by kernel_rfl) (body_loops (loopsOK_none (by kernel_rfl))) (enters (fn := Proofs.Try.f59) (by kernel_rfl) (by kernel_rfl) (by kernel_rfl)) (fun _ => rfl) (lim_Is_ev k) hy
theorem R_lim_Is_local : EntryLocal R_lim_Is.2 := entry_local (S := fun k (d : AD as_lim_Is) => lim_Is k d.1 d.2.1 d.2.2.1 d.2.2.2.1)

/-! ### giro/lim.Net -/
noncomputable def E_lim_Net : Env := ⟨Proofs.Try.prog, fun _ => false, sumsOf []⟩
def I_lim_Net_L0 : Spec := ⟨[(5, .c (.int .i64)), (12, .c (.dat false (.int .i64))), (13, .c (.int .i64)), (14, .c (.int .i64))], [], []⟩
def O_lim_Net_L0 : List (Ex × Spec) := [(.exit 0, ⟨[(5, .c (.int .i64))], [], []⟩)]
def T_lim_Net_L0 : OutD O_lim_Net_L0 → Int := fun d => d.1.1.1
def e_lim_Net_L0 (base : Nat) (x : Int) (R : Type) (K : Ex → St → Option R) : Option R := K (.exit 0) (stOf base ⟨[(5, .c (.int .i64))], [], []⟩ (((x, ()), ()), ()))
def L_lim_Net_L0 : LoopSum := ⟨I_lim_Net_L0, O_lim_Net_L0, Int, fun k d => lim_Net_L0 k k d.1.1.1 d.1.2.1.1 d.1.2.2.1.1 d.1.2.2.2.1.1, e_lim_Net_L0⟩
def A_lim_Net : Notes := ⟨[], [(3, L_lim_Net_L0)]⟩
theorem E_lim_Net_ok : EnvOK E_lim_Net := ⟨eqOK_none, sumsOf_ok (List.forall_mem_nil _)⟩
theorem E_lim_Net_local : SumsLocal E_lim_Net.sums := sumsOf_local (List.forall_mem_nil _)
theorem lim_Net_L0_step (k : Nat) (rec : Int → List Int → Int → Int → Option (Int)) (d : I_lim_Net_L0.den) : lim_Net_L0b k rec d.1.1.1 d.1.2.1.1 d.1.2.2.1.1 d.1.2.2.2.1.1 = evC E_lim_Net A_lim_Net k 1000 0 23 (loopAt (bodyOf Proofs.Try.f16) 0) (stOf (1000 + loopBase) I_lim_Net_L0 d) (roundK 1000 I_lim_Net_L0 O_lim_Net_L0 T_lim_Net_L0 fun d => rec d.1.1.1 d.1.2.1.1 d.1.2.2.1.1 d.1.2.2.2.1.1) := by
  obtain ⟨⟨⟨_, _⟩, ⟨_, _⟩, ⟨_, _⟩, ⟨_, _⟩, _⟩, _⟩ := d
  kernel_rfl
theorem lim_Net_L0_ok : LoopOK Proofs.Try.prog 1000 0 23 (loopAt (bodyOf Proofs.Try.f16) 0) L_lim_Net_L0 :=
  loop_sound (A := A_lim_Net) (inS := I_lim_Net_L0) (outs := O_lim_Net_L0) E_lim_Net_ok E_lim_Net_local mixed_orders (loopsOK_none (by kernel_rfl)) T_lim_Net_L0 e_lim_Net_L0 (fun _ _ _ => rfl) (fun k n d => lim_Net_L0 k n d.1.1.1 d.1.2.1.1 d.1.2.2.1.1 d.1.2.2.2.1.1) (fun _ _ => rfl) (fun k n d => lim_Net_L0_step k (lim_Net_L0 k n) d)
def as_lim_Net : List AS := [.agg [.dat false (.pair (.int .i64) (.pair (.int .i64) (.int .i64))), .dat false (.sl (.int .i64)), .dat false (.int .i64), .dat false (.sl (.int .i64))], .c (.int .i64)]
def rs_lim_Net : RS := .c (.int .i64)
def pk_lim_Net : Int → RL rs_lim_Net.cells := fun x => (x, ())
def up_lim_Net : RL rs_lim_Net.cells → Int := fun d => d.1
def R_lim_Net : Nat × Entry := (16, fun k nm args h => entry as_lim_Net rs_lim_Net (fun d => lim_Net k d.1 d.2.1 d.2.2.1 d.2.2.2.1 d.2.2.2.2.1) pk_lim_Net nm args h)
theorem lim_Net_ev (k : Nat) (d : AD as_lim_Net) : evF E_lim_Net A_lim_Net k 1000 0 Proofs.Try.f16 (absArgs as_lim_Net d).1 (absArgs as_lim_Net d).2 (outM rs_lim_Net up_lim_Net) = lim_Net k d.1 d.2.1 d.2.2.1 d.2.2.2.1 d.2.2.2.2.1 := by
  obtain ⟨_, _, _, _, _, _⟩ := d
  kernel_rfl
theorem R_lim_Net_ok : EntryOK Proofs.Try.prog R_lim_Net := fun k _ _ _ _ _ hy =>
  entry_sound (unpack := up_lim_Net) (A := A_lim_Net) (k := k) (pre := 1000) (na := 0) (E := E_lim_Net) E_lim_Net_ok E_lim_Net_local mixed_orders (f := 16) (fn := Proofs.Try.f16) (by kernel_rfl) (body_loops (loopsOK_of (n := 1) (by kernel_rfl) fun i hi => match i, hi with | 0, _ => ⟨L_lim_Net_L0, by kernel_rfl, lim_Net_L0_ok⟩ | i + 1, hi => absurd hi (by omega))) (enters (fn := Proofs.Try.f16) (by kernel_rfl) (by kernel_rfl) (by kernel_rfl)) (fun _ => rfl) (lim_Net_ev k) hy
theorem R_lim_Net_local : EntryLocal R_lim_Net.2 := entry_local (S := fun k (d : AD as_lim_Net) => lim_Net k d.1 d.2.1 d.2.2.1 d.2.2.2.1 d.2.2.2.2.1)

/-! ### slices.Clone[[]giro/api.Acct,giro/api.Acct] -/
noncomputable def E_slices_Clone_Acct : Env := ⟨Proofs.Try.prog, fun _ => false, sumsOf []⟩
def A_slices_Clone_Acct : Notes := ⟨[], []⟩
theorem E_slices_Clone_Acct_ok : EnvOK E_slices_Clone_Acct := ⟨eqOK_none, sumsOf_ok (List.forall_mem_nil _)⟩
theorem E_slices_Clone_Acct_local : SumsLocal E_slices_Clone_Acct.sums := sumsOf_local (List.forall_mem_nil _)
def as_slices_Clone_Acct : List AS := [.c (.dat false (.pair (.int .i64) (.pair (.int .i64) (.int .i64))))]
def rs_slices_Clone_Acct : RS := .c (.own (.pair (.int .i64) (.pair (.int .i64) (.int .i64))))
def pk_slices_Clone_Acct : List (Int × Int × Int) → RL rs_slices_Clone_Acct.cells := fun x => (x, ())
def up_slices_Clone_Acct : RL rs_slices_Clone_Acct.cells → List (Int × Int × Int) := fun d => d.1
def R_slices_Clone_Acct : Nat × Entry := (60, fun k nm args h => entry as_slices_Clone_Acct rs_slices_Clone_Acct (fun d => slices_Clone_Acct k d.1) pk_slices_Clone_Acct nm args h)
theorem slices_Clone_Acct_nil (k : Nat) : evF E_slices_Clone_Acct A_slices_Clone_Acct k 1000 0 Proofs.Try.f60 [.c .nsl] (boxHp []) (outM rs_slices_Clone_Acct up_slices_Clone_Acct) = slices_Clone_Acct k [] := by kernel_rfl
theorem slices_Clone_Acct_ev (k : Nat) (xs : List (Int × Int × Int)) : evF E_slices_Clone_Acct A_slices_Clone_Acct k 1000 0 Proofs.Try.f60 [.c (.nfl false (.pair (.int .i64) (.pair (.int .i64) (.int .i64))) xs)] (boxHp []) (outM rs_slices_Clone_Acct up_slices_Clone_Acct) = slices_Clone_Acct k xs := by kernel_rfl
theorem R_slices_Clone_Acct_ok : EntryOK Proofs.Try.prog R_slices_Clone_Acct := fun k _ _ _ _ _ hy =>
  entry_nil (t := (.pair (.int .i64) (.pair (.int .i64) (.int .i64)))) (S := fun xs => slices_Clone_Acct k xs) (unpack := up_slices_Clone_Acct) (A := A_slices_Clone_Acct) (k := k) (pre := 1000) (na := 0) (E := E_slices_Clone_Acct) E_slices_Clone_Acct_ok E_slices_Clone_Acct_local mixed_orders (f := 60) (fn := Proofs.Try.f60) (by kernel_rfl) (body_loops (loopsOK_none (by kernel_rfl))) (enters (fn := Proofs.Try.f60) (by kernel_rfl) (by kernel_rfl) (by kernel_rfl)) (fun _ => rfl) (fun x hx => (slices_Clone_Acct_nil k).trans hx) (fun xs x hx => (slices_Clone_Acct_ev k xs).trans hx) hy
theorem R_slices_Clone_Acct_local : EntryLocal R_slices_Clone_Acct.2 := entry_local (S := fun k (d : AD as_slices_Clone_Acct) => slices_Clone_Acct k d.1)

/-! ### slices.Clone[[][]int64,[]int64] -/
noncomputable def E_slices_Clone_Rowint64 : Env := ⟨Proofs.Try.prog, fun _ => false, sumsOf []⟩
def A_slices_Clone_Rowint64 : Notes := ⟨[], []⟩
theorem E_slices_Clone_Rowint64_ok : EnvOK E_slices_Clone_Rowint64 := ⟨eqOK_none, sumsOf_ok (List.forall_mem_nil _)⟩
theorem E_slices_Clone_Rowint64_local : SumsLocal E_slices_Clone_Rowint64.sums := sumsOf_local (List.forall_mem_nil _)
def as_slices_Clone_Rowint64 : List AS := [.c (.dat true (.sl (.int .i64)))]
def rs_slices_Clone_Rowint64 : RS := .c (.jun)
def pk_slices_Clone_Rowint64 : Nat → RL rs_slices_Clone_Rowint64.cells := fun x => (x, ())
def up_slices_Clone_Rowint64 : RL rs_slices_Clone_Rowint64.cells → Nat := fun d => d.1
def R_slices_Clone_Rowint64 : Nat × Entry := (94, fun k nm args h => entry as_slices_Clone_Rowint64 rs_slices_Clone_Rowint64 (fun d => slices_Clone_Rowint64 k d.1) pk_slices_Clone_Rowint64 nm args h)
theorem slices_Clone_Rowint64_nil (k : Nat) : evF E_slices_Clone_Rowint64 A_slices_Clone_Rowint64 k 1000 0 Proofs.Try.f94 [.c .nsl] (boxHp []) (outM rs_slices_Clone_Rowint64 up_slices_Clone_Rowint64) = slices_Clone_Rowint64 k [] := by kernel_rfl
theorem slices_Clone_Rowint64_ev (k : Nat) (xs : List (List Int)) : evF E_slices_Clone_Rowint64 A_slices_Clone_Rowint64 k 1000 0 Proofs.Try.f94 [.c (.nfl true (.sl (.int .i64)) xs)] (boxHp []) (outM rs_slices_Clone_Rowint64 up_slices_Clone_Rowint64) = slices_Clone_Rowint64 k xs := by kernel_rfl
theorem R_slices_Clone_Rowint64_ok : EntryOK Proofs.Try.prog R_slices_Clone_Rowint64 := fun k _ _ _ _ _ hy =>
  entry_nil (t := (.sl (.int .i64))) (S := fun xs => slices_Clone_Rowint64 k xs) (unpack := up_slices_Clone_Rowint64) (A := A_slices_Clone_Rowint64) (k := k) (pre := 1000) (na := 0) (E := E_slices_Clone_Rowint64) E_slices_Clone_Rowint64_ok E_slices_Clone_Rowint64_local mixed_orders (f := 94) (fn := Proofs.Try.f94) (by kernel_rfl) (body_loops (loopsOK_none (by kernel_rfl))) (enters (fn := Proofs.Try.f94) (by kernel_rfl) (by kernel_rfl) (by kernel_rfl)) (fun _ => rfl) (fun x hx => (slices_Clone_Rowint64_nil k).trans hx) (fun xs x hx => (slices_Clone_Rowint64_ev k xs).trans hx) hy
theorem R_slices_Clone_Rowint64_local : EntryLocal R_slices_Clone_Rowint64.2 := entry_local (S := fun k (d : AD as_slices_Clone_Rowint64) => slices_Clone_Rowint64 k d.1)

/-! ### slices.Clone[[]int64,int64] -/
noncomputable def E_slices_Clone_int64 : Env := ⟨Proofs.Try.prog, fun _ => false, sumsOf []⟩
def A_slices_Clone_int64 : Notes := ⟨[], []⟩
theorem E_slices_Clone_int64_ok : EnvOK E_slices_Clone_int64 := ⟨eqOK_none, sumsOf_ok (List.forall_mem_nil _)⟩
theorem E_slices_Clone_int64_local : SumsLocal E_slices_Clone_int64.sums := sumsOf_local (List.forall_mem_nil _)
def as_slices_Clone_int64 : List AS := [.c (.dat false (.int .i64))]
def rs_slices_Clone_int64 : RS := .c (.own (.int .i64))
def pk_slices_Clone_int64 : List Int → RL rs_slices_Clone_int64.cells := fun x => (x, ())
def up_slices_Clone_int64 : RL rs_slices_Clone_int64.cells → List Int := fun d => d.1
def R_slices_Clone_int64 : Nat × Entry := (62, fun k nm args h => entry as_slices_Clone_int64 rs_slices_Clone_int64 (fun d => slices_Clone_int64 k d.1) pk_slices_Clone_int64 nm args h)
theorem slices_Clone_int64_nil (k : Nat) : evF E_slices_Clone_int64 A_slices_Clone_int64 k 1000 0 Proofs.Try.f62 [.c .nsl] (boxHp []) (outM rs_slices_Clone_int64 up_slices_Clone_int64) = slices_Clone_int64 k [] := by kernel_rfl
theorem slices_Clone_int64_ev (k : Nat) (xs : List Int) : evF E_slices_Clone_int64 A_slices_Clone_int64 k 1000 0 Proofs.Try.f62 [.c (.nfl false (.int .i64) xs)] (boxHp []) (outM rs_slices_Clone_int64 up_slices_Clone_int64) = slices_Clone_int64 k xs := by kernel_rfl
theorem R_slices_Clone_int64_ok : EntryOK Proofs.Try.prog R_slices_Clone_int64 := fun k _ _ _ _ _ hy =>
  entry_nil (t := (.int .i64)) (S := fun xs => slices_Clone_int64 k xs) (unpack := up_slices_Clone_int64) (A := A_slices_Clone_int64) (k := k) (pre := 1000) (na := 0) (E := E_slices_Clone_int64) E_slices_Clone_int64_ok E_slices_Clone_int64_local mixed_orders (f := 62) (fn := Proofs.Try.f62) (by kernel_rfl) (body_loops (loopsOK_none (by kernel_rfl))) (enters (fn := Proofs.Try.f62) (by kernel_rfl) (by kernel_rfl) (by kernel_rfl)) (fun _ => rfl) (fun x hx => (slices_Clone_int64_nil k).trans hx) (fun xs x hx => (slices_Clone_int64_ev k xs).trans hx) hy
theorem R_slices_Clone_int64_local : EntryLocal R_slices_Clone_int64.2 := entry_local (S := fun k (d : AD as_slices_Clone_int64) => slices_Clone_int64 k d.1)

/-! ### giro/lim.copied -/
noncomputable def E_lim_copied : Env := ⟨Proofs.Try.prog, fun _ => false, sumsOf [R_slices_Clone_Rowint64, R_slices_Clone_int64]⟩
def I_lim_copied_L0 : Spec := ⟨[(3, .c (.lit (.osl 1001000 none))), (8, .c (.dat true (.sl (.int .i64)))), (9, .c (.int .i64)), (10, .c (.int .i64))], [.pmat], []⟩
def O_lim_copied_L0 : List (Ex × Spec) := [(.exit 0, ⟨[(3, .c (.lit (.osl 1001000 none)))], [.pmat], []⟩)]
def T_lim_copied_L0 : OutD O_lim_copied_L0 → (List (List Int)) × Nat := fun d => (d.2.1.1, d.2.1.2)
def e_lim_copied_L0 (base : Nat) (x : (List (List Int)) × Nat) (R : Type) (K : Ex → St → Option R) : Option R := K (.exit 0) (stOf base ⟨[(3, .c (.lit (.osl 1001000 none)))], [.pmat], []⟩ (((), ()), ((x.1, x.2), ())))
def L_lim_copied_L0 : LoopSum := ⟨I_lim_copied_L0, O_lim_copied_L0, (List (List Int)) × Nat, fun k d => lim_copied_L0 k k d.1.2.1.1 d.1.2.2.1.1 d.1.2.2.2.1.1 d.2.1.1 d.2.1.2, e_lim_copied_L0⟩
def A_lim_copied : Notes := ⟨[], [(3, L_lim_copied_L0)]⟩
theorem E_lim_copied_ok : EnvOK E_lim_copied := ⟨eqOK_none, sumsOf_ok (List.forall_mem_cons.2 ⟨R_slices_Clone_Rowint64_ok, List.forall_mem_cons.2 ⟨R_slices_Clone_int64_ok, List.forall_mem_nil _⟩⟩)⟩
theorem E_lim_copied_local : SumsLocal E_lim_copied.sums := sumsOf_local (List.forall_mem_cons.2 ⟨R_slices_Clone_Rowint64_local, List.forall_mem_cons.2 ⟨R_slices_Clone_int64_local, List.forall_mem_nil _⟩⟩)
theorem lim_copied_L0_step (k : Nat) (rec : List (List Int) → Int → Int → List (List Int) → Nat → Option ((List (List Int)) × Nat)) (d : I_lim_copied_L0.den) : lim_copied_L0b k rec d.1.2.1.1 d.1.2.2.1.1 d.1.2.2.2.1.1 d.2.1.1 d.2.1.2 = evC E_lim_copied A_lim_copied k 1000 0 22 (loopAt (bodyOf Proofs.Try.f61) 0) (stOf (1000 + loopBase) I_lim_copied_L0 d) (roundK 1000 I_lim_copied_L0 O_lim_copied_L0 T_lim_copied_L0 fun d => rec d.1.2.1.1 d.1.2.2.1.1 d.1.2.2.2.1.1 d.2.1.1 d.2.1.2) := by
  obtain ⟨⟨_, ⟨_, _⟩, ⟨_, _⟩, ⟨_, _⟩, _⟩, ⟨_, _⟩⟩ := d
  kernel_rfl
theorem lim_copied_L0_ok : LoopOK Proofs.Try.prog 1000 0 22 (loopAt (bodyOf Proofs.Try.f61) 0) L_lim_copied_L0 :=
  loop_sound (A := A_lim_copied) (inS := I_lim_copied_L0) (outs := O_lim_copied_L0) E_lim_copied_ok E_lim_copied_local mixed_orders (loopsOK_none (by kernel_rfl)) T_lim_copied_L0 e_lim_copied_L0 (fun _ _ _ => rfl) (fun k n d => lim_copied_L0 k n d.1.2.1.1 d.1.2.2.1.1 d.1.2.2.2.1.1 d.2.1.1 d.2.1.2) (fun _ _ => rfl) (fun k n d => lim_copied_L0_step k (lim_copied_L0 k n) d)
def as_lim_copied : List AS := [.c (.dat true (.sl (.int .i64)))]
def rs_lim_copied : RS := .c (.mat)
def pk_lim_copied : List (List Int) → RL rs_lim_copied.cells := fun x => (x, ())
def up_lim_copied : RL rs_lim_copied.cells → List (List Int) := fun d => d.1
def R_lim_copied : Nat × Entry := (61, fun k nm args h => entry as_lim_copied rs_lim_copied (fun d => lim_copied k d.1) pk_lim_copied nm args h)
theorem lim_copied_ev (k : Nat) (d : AD as_lim_copied) : evF E_lim_copied A_lim_copied k 1000 0 Proofs.Try.f61 (absArgs as_lim_copied d).1 (absArgs as_lim_copied d).2 (outM rs_lim_copied up_lim_copied) = lim_copied k d.1 := by
  obtain ⟨_, _⟩ := d
  kernel_rfl
theorem R_lim_copied_ok : EntryOK Proofs.Try.prog R_lim_copied := fun k _ _ _ _ _ hy =>
  entry_sound (unpack := up_lim_copied) (A := A_lim_copied) (k := k) (pre := 1000) (na := 0) (E := E_lim_copied) E_lim_copied_ok E_lim_copied_local mixed_orders (f := 61) (fn := Proofs.Try.f61) (by kernel_rfl) (body_loops (loopsOK_of (n := 1) (by kernel_rfl) fun i hi => match i, hi with | 0, _ => ⟨L_lim_copied_L0, by kernel_rfl, lim_copied_L0_ok⟩ | i + 1, hi => absurd hi (by omega))) (enters (fn := Proofs.Try.f61) (by kernel_rfl) (by kernel_rfl) (by kernel_rfl)) (fun _ => rfl) (lim_copied_ev k) hy
theorem R_lim_copied_local : EntryLocal R_lim_copied.2 := entry_local (S := fun k (d : AD as_lim_copied) => lim_copied k d.1)

/-! ### giro/lim.Copy -/
noncomputable def E_lim_Copy : Env := ⟨Proofs.Try.prog, fun _ => false, sumsOf [R_slices_Clone_Acct, R_lim_copied, R_slices_Clone_int64]⟩
def A_lim_Copy : Notes := ⟨[], []⟩
theorem E_lim_Copy_ok : EnvOK E_lim_Copy := ⟨eqOK_none, sumsOf_ok (List.forall_mem_cons.2 ⟨R_slices_Clone_Acct_ok, List.forall_mem_cons.2 ⟨R_lim_copied_ok, List.forall_mem_cons.2 ⟨R_slices_Clone_int64_ok, List.forall_mem_nil _⟩⟩⟩)⟩
theorem E_lim_Copy_local : SumsLocal E_lim_Copy.sums := sumsOf_local (List.forall_mem_cons.2 ⟨R_slices_Clone_Acct_local, List.forall_mem_cons.2 ⟨R_lim_copied_local, List.forall_mem_cons.2 ⟨R_slices_Clone_int64_local, List.forall_mem_nil _⟩⟩⟩)
def as_lim_Copy : List AS := [.agg [.dat false (.pair (.int .i64) (.pair (.int .i64) (.int .i64))), .dat true (.sl (.int .i64)), .dat false (.int .i64), .dat true (.sl (.int .i64))]]
def rs_lim_Copy : RS := .agg [.own (.pair (.int .i64) (.pair (.int .i64) (.int .i64))), .mat, .own (.int .i64), .mat]
def pk_lim_Copy : (List (Int × Int × Int)) × (List (List Int)) × (List Int) × (List (List Int)) → RL rs_lim_Copy.cells := fun x => (x.1, x.2.1, x.2.2.1, x.2.2.2, ())
def up_lim_Copy : RL rs_lim_Copy.cells → (List (Int × Int × Int)) × (List (List Int)) × (List Int) × (List (List Int)) := fun d => (d.1, d.2.1, d.2.2.1, d.2.2.2.1)
def R_lim_Copy : Nat × Entry := (20, fun k nm args h => entry as_lim_Copy rs_lim_Copy (fun d => lim_Copy k d.1 d.2.1 d.2.2.1 d.2.2.2.1) pk_lim_Copy nm args h)
theorem lim_Copy_ev (k : Nat) (d : AD as_lim_Copy) : evF E_lim_Copy A_lim_Copy k 1000 0 Proofs.Try.f20 (absArgs as_lim_Copy d).1 (absArgs as_lim_Copy d).2 (outM rs_lim_Copy up_lim_Copy) = lim_Copy k d.1 d.2.1 d.2.2.1 d.2.2.2.1 := by
  obtain ⟨_, _, _, _, _⟩ := d
  kernel_rfl
theorem R_lim_Copy_ok : EntryOK Proofs.Try.prog R_lim_Copy := fun k _ _ _ _ _ hy =>
  entry_sound (unpack := up_lim_Copy) (A := A_lim_Copy) (k := k) (pre := 1000) (na := 0) (E := E_lim_Copy) E_lim_Copy_ok E_lim_Copy_local mixed_orders (f := 20) (fn := Proofs.Try.f20) (by kernel_rfl) (body_loops (loopsOK_none (by kernel_rfl))) (enters (fn := Proofs.Try.f20) (by kernel_rfl) (by kernel_rfl) (by kernel_rfl)) (fun _ => rfl) (lim_Copy_ev k) hy
theorem R_lim_Copy_local : EntryLocal R_lim_Copy.2 := entry_local (S := fun k (d : AD as_lim_Copy) => lim_Copy k d.1 d.2.1 d.2.2.1 d.2.2.2.1)

/-! ### slices.Equal[[]giro/api.Acct,giro/api.Acct] -/
noncomputable def E_slices_Equal_Acct : Env := ⟨Proofs.Try.prog, fun t => [34].any (Nat.beq t), sumsOf []⟩
def I_slices_Equal_Acct_L0 : Spec := ⟨[(0, .c (.dat false (.pair (.int .i64) (.pair (.int .i64) (.int .i64))))), (1, .c (.dat false (.pair (.int .i64) (.pair (.int .i64) (.int .i64))))), (12, .c (.int .i64)), (13, .c (.int .i64))], [], []⟩
def O_slices_Equal_Acct_L0 : List (Ex × Spec) := [(.exit 0, ⟨[], [], []⟩), (.ret, ⟨[(4, .c (.bool))], [], []⟩)]
def T_slices_Equal_Acct_L0 : OutD O_slices_Equal_Acct_L0 → Unit ⊕ Bool
 | .inl d => .inl ()
 | .inr d => .inr d.1.1.1
def e_slices_Equal_Acct_L0 (base : Nat) (x : Unit ⊕ Bool) (R : Type) (K : Ex → St → Option R) : Option R := match x with
 | .inl x => K (.exit 0) (stOf base ⟨[], [], []⟩ ((), ()))
 | .inr x => K .ret (stOf base ⟨[(4, .c (.bool))], [], []⟩ (((x, ()), ()), ()))
def L_slices_Equal_Acct_L0 : LoopSum := ⟨I_slices_Equal_Acct_L0, O_slices_Equal_Acct_L0, Unit ⊕ Bool, fun k d => slices_Equal_Acct_L0 k k d.1.1.1 d.1.2.1.1 d.1.2.2.1.1 d.1.2.2.2.1.1, e_slices_Equal_Acct_L0⟩
def A_slices_Equal_Acct : Notes := ⟨[], [(4, L_slices_Equal_Acct_L0)]⟩
theorem E_slices_Equal_Acct_ok : EnvOK E_slices_Equal_Acct := ⟨eqOK_flat (fun t h => eqT_mem (p := fun t => !Proofs.Try.prog.stoodInHeld t && !Proofs.Try.prog.eqGuardType Proofs.Try.prog.depth t) (l := [34]) (List.forall_mem_cons.2 ⟨by kernel_rfl, List.forall_mem_nil _⟩) t h), sumsOf_ok (List.forall_mem_nil _)⟩
theorem E_slices_Equal_Acct_local : SumsLocal E_slices_Equal_Acct.sums := sumsOf_local (List.forall_mem_nil _)
theorem slices_Equal_Acct_L0_step (k : Nat) (rec : List (Int × Int × Int) → List (Int × Int × Int) → Int → Int → Option (Unit ⊕ Bool)) (d : I_slices_Equal_Acct_L0.den) : slices_Equal_Acct_L0b k rec d.1.1.1 d.1.2.1.1 d.1.2.2.1.1 d.1.2.2.2.1.1 = evC E_slices_Equal_Acct A_slices_Equal_Acct k 1000 0 26 (loopAt (bodyOf Proofs.Try.f63) 0) (stOf (1000 + loopBase) I_slices_Equal_Acct_L0 d) (roundK 1000 I_slices_Equal_Acct_L0 O_slices_Equal_Acct_L0 T_slices_Equal_Acct_L0 fun d => rec d.1.1.1 d.1.2.1.1 d.1.2.2.1.1 d.1.2.2.2.1.1) := by
  obtain ⟨⟨⟨_, _⟩, ⟨_, _⟩, ⟨_, _⟩, ⟨_, _⟩, _⟩, _⟩ := d
  kernel_rfl
theorem slices_Equal_Acct_L0_ok : LoopOK Proofs.Try.prog 1000 0 26 (loopAt (bodyOf Proofs.Try.f63) 0) L_slices_Equal_Acct_L0 :=
  loop_sound (A := A_slices_Equal_Acct) (inS := I_slices_Equal_Acct_L0) (outs := O_slices_Equal_Acct_L0) E_slices_Equal_Acct_ok E_slices_Equal_Acct_local mixed_orders (loopsOK_none (by kernel_rfl)) T_slices_Equal_Acct_L0 e_slices_Equal_Acct_L0 (by intro o R K; rcases o with o | o <;> rfl) (fun k n d => slices_Equal_Acct_L0 k n d.1.1.1 d.1.2.1.1 d.1.2.2.1.1 d.1.2.2.2.1.1) (fun _ _ => rfl) (fun k n d => slices_Equal_Acct_L0_step k (slices_Equal_Acct_L0 k n) d)
def as_slices_Equal_Acct : List AS := [.c (.dat false (.pair (.int .i64) (.pair (.int .i64) (.int .i64)))), .c (.dat false (.pair (.int .i64) (.pair (.int .i64) (.int .i64))))]
def rs_slices_Equal_Acct : RS := .c (.bool)
def pk_slices_Equal_Acct : Bool → RL rs_slices_Equal_Acct.cells := fun x => (x, ())
def up_slices_Equal_Acct : RL rs_slices_Equal_Acct.cells → Bool := fun d => d.1
def R_slices_Equal_Acct : Nat × Entry := (63, fun k nm args h => entry as_slices_Equal_Acct rs_slices_Equal_Acct (fun d => slices_Equal_Acct k d.1 d.2.1) pk_slices_Equal_Acct nm args h)
theorem slices_Equal_Acct_ev (k : Nat) (d : AD as_slices_Equal_Acct) : evF E_slices_Equal_Acct A_slices_Equal_Acct k 1000 0 Proofs.Try.f63 (absArgs as_slices_Equal_Acct d).1 (absArgs as_slices_Equal_Acct d).2 (outM rs_slices_Equal_Acct up_slices_Equal_Acct) = slices_Equal_Acct k d.1 d.2.1 := by
  obtain ⟨_, _, _⟩ := d
  kernel_rfl
theorem R_slices_Equal_Acct_ok : EntryOK Proofs.Try.prog R_slices_Equal_Acct := fun k _ _ _ _ _ hy =>
  entry_sound (unpack := up_slices_Equal_Acct) (A := A_slices_Equal_Acct) (k := k) (pre := 1000) (na := 0) (E := E_slices_Equal_Acct) E_slices_Equal_Acct_ok E_slices_Equal_Acct_local mixed_orders (f := 63) (fn := Proofs.Try.f63) (by kernel_rfl) (body_loops (loopsOK_of (n := 1) (by kernel_rfl) fun i hi => match i, hi with | 0, _ => ⟨L_slices_Equal_Acct_L0, by kernel_rfl, slices_Equal_Acct_L0_ok⟩ | i + 1, hi => absurd hi (by omega))) (enters (fn := Proofs.Try.f63) (by kernel_rfl) (by kernel_rfl) (by kernel_rfl)) (fun _ => rfl) (slices_Equal_Acct_ev k) hy
theorem R_slices_Equal_Acct_local : EntryLocal R_slices_Equal_Acct.2 := entry_local (S := fun k (d : AD as_slices_Equal_Acct) => slices_Equal_Acct k d.1 d.2.1)

/-! ### slices.Equal[[]int64,int64] -/
noncomputable def E_slices_Equal_int64 : Env := ⟨Proofs.Try.prog, fun _ => false, sumsOf []⟩
def I_slices_Equal_int64_L0 : Spec := ⟨[(0, .c (.dat false (.int .i64))), (1, .c (.dat false (.int .i64))), (12, .c (.int .i64)), (13, .c (.int .i64))], [], []⟩
def O_slices_Equal_int64_L0 : List (Ex × Spec) := [(.exit 0, ⟨[], [], []⟩), (.ret, ⟨[(4, .c (.bool))], [], []⟩)]
def T_slices_Equal_int64_L0 : OutD O_slices_Equal_int64_L0 → Unit ⊕ Bool
 | .inl d => .inl ()
 | .inr d => .inr d.1.1.1
def e_slices_Equal_int64_L0 (base : Nat) (x : Unit ⊕ Bool) (R : Type) (K : Ex → St → Option R) : Option R := match x with
 | .inl x => K (.exit 0) (stOf base ⟨[], [], []⟩ ((), ()))
 | .inr x => K .ret (stOf base ⟨[(4, .c (.bool))], [], []⟩ (((x, ()), ()), ()))
def L_slices_Equal_int64_L0 : LoopSum := ⟨I_slices_Equal_int64_L0, O_slices_Equal_int64_L0, Unit ⊕ Bool, fun k d => slices_Equal_int64_L0 k k d.1.1.1 d.1.2.1.1 d.1.2.2.1.1 d.1.2.2.2.1.1, e_slices_Equal_int64_L0⟩
def A_slices_Equal_int64 : Notes := ⟨[], [(4, L_slices_Equal_int64_L0)]⟩
theorem E_slices_Equal_int64_ok : EnvOK E_slices_Equal_int64 := ⟨eqOK_none, sumsOf_ok (List.forall_mem_nil _)⟩
theorem E_slices_Equal_int64_local : SumsLocal E_slices_Equal_int64.sums := sumsOf_local (List.forall_mem_nil _)
theorem slices_Equal_int64_L0_step (k : Nat) (rec : List Int → List Int → Int → Int → Option (Unit ⊕ Bool)) (d : I_slices_Equal_int64_L0.den) : slices_Equal_int64_L0b k rec d.1.1.1 d.1.2.1.1 d.1.2.2.1.1 d.1.2.2.2.1.1 = evC E_slices_Equal_int64 A_slices_Equal_int64 k 1000 0 26 (loopAt (bodyOf Proofs.Try.f65) 0) (stOf (1000 + loopBase) I_slices_Equal_int64_L0 d) (roundK 1000 I_slices_Equal_int64_L0 O_slices_Equal_int64_L0 T_slices_Equal_int64_L0 fun d => rec d.1.1.1 d.1.2.1.1 d.1.2.2.1.1 d.1.2.2.2.1.1) := by
  obtain ⟨⟨⟨_, _⟩, ⟨_, _⟩, ⟨_, _⟩, ⟨_, _⟩, _⟩, _⟩ := d
  kernel_rfl
theorem slices_Equal_int64_L0_ok : LoopOK Proofs.Try.prog 1000 0 26 (loopAt (bodyOf Proofs.Try.f65) 0) L_slices_Equal_int64_L0 :=
  loop_sound (A := A_slices_Equal_int64) (inS := I_slices_Equal_int64_L0) (outs := O_slices_Equal_int64_L0) E_slices_Equal_int64_ok E_slices_Equal_int64_local mixed_orders (loopsOK_none (by kernel_rfl)) T_slices_Equal_int64_L0 e_slices_Equal_int64_L0 (by intro o R K; rcases o with o | o <;> rfl) (fun k n d => slices_Equal_int64_L0 k n d.1.1.1 d.1.2.1.1 d.1.2.2.1.1 d.1.2.2.2.1.1) (fun _ _ => rfl) (fun k n d => slices_Equal_int64_L0_step k (slices_Equal_int64_L0 k n) d)
def as_slices_Equal_int64 : List AS := [.c (.dat false (.int .i64)), .c (.dat false (.int .i64))]
def rs_slices_Equal_int64 : RS := .c (.bool)
def pk_slices_Equal_int64 : Bool → RL rs_slices_Equal_int64.cells := fun x => (x, ())
def up_slices_Equal_int64 : RL rs_slices_Equal_int64.cells → Bool := fun d => d.1
def R_slices_Equal_int64 : Nat × Entry := (65, fun k nm args h => entry as_slices_Equal_int64 rs_slices_Equal_int64 (fun d => slices_Equal_int64 k d.1 d.2.1) pk_slices_Equal_int64 nm args h)
theorem slices_Equal_int64_ev (k : Nat) (d : AD as_slices_Equal_int64) : evF E_slices_Equal_int64 A_slices_Equal_int64 k 1000 0 Proofs.Try.f65 (absArgs as_slices_Equal_int64 d).1 (absArgs as_slices_Equal_int64 d).2 (outM rs_slices_Equal_int64 up_slices_Equal_int64) = slices_Equal_int64 k d.1 d.2.1 := by
  obtain ⟨_, _, _⟩ := d
  kernel_rfl
theorem R_slices_Equal_int64_ok : EntryOK Proofs.Try.prog R_slices_Equal_int64 := fun k _ _ _ _ _ hy =>
  entry_sound (unpack := up_slices_Equal_int64) (A := A_slices_Equal_int64) (k := k) (pre := 1000) (na := 0) (E := E_slices_Equal_int64) E_slices_Equal_int64_ok E_slices_Equal_int64_local mixed_orders (f := 65) (fn := Proofs.Try.f65) (by kernel_rfl) (body_loops (loopsOK_of (n := 1) (by kernel_rfl) fun i hi => match i, hi with | 0, _ => ⟨L_slices_Equal_int64_L0, by kernel_rfl, slices_Equal_int64_L0_ok⟩ | i + 1, hi => absurd hi (by omega))) (enters (fn := Proofs.Try.f65) (by kernel_rfl) (by kernel_rfl) (by kernel_rfl)) (fun _ => rfl) (slices_Equal_int64_ev k) hy
theorem R_slices_Equal_int64_local : EntryLocal R_slices_Equal_int64.2 := entry_local (S := fun k (d : AD as_slices_Equal_int64) => slices_Equal_int64 k d.1 d.2.1)

/-! ### slices.EqualFunc[[][]int64,[][]int64,[]int64,[]int64] -/
noncomputable def E_slices_EqualFunc_Rowint64__slices_Equal_int64 : Env := ⟨Proofs.Try.prog, fun _ => false, sumsOf [R_slices_Equal_int64]⟩
def I_slices_EqualFunc_Rowint64__slices_Equal_int64_L0 : Spec := ⟨[(1, .c (.dat false (.sl (.int .i64)))), (2, .c (.lit (.fn 65 []))), (15, .c (.dat false (.sl (.int .i64)))), (16, .c (.int .i64)), (17, .c (.int .i64))], [], []⟩
def O_slices_EqualFunc_Rowint64__slices_Equal_int64_L0 : List (Ex × Spec) := [(.exit 0, ⟨[], [], []⟩), (.ret, ⟨[(6, .c (.bool))], [], []⟩)]
def T_slices_EqualFunc_Rowint64__slices_Equal_int64_L0 : OutD O_slices_EqualFunc_Rowint64__slices_Equal_int64_L0 → Unit ⊕ Bool
 | .inl d => .inl ()
 | .inr d => .inr d.1.1.1
def e_slices_EqualFunc_Rowint64__slices_Equal_int64_L0 (base : Nat) (x : Unit ⊕ Bool) (R : Type) (K : Ex → St → Option R) : Option R := match x with
 | .inl x => K (.exit 0) (stOf base ⟨[], [], []⟩ ((), ()))
 | .inr x => K .ret (stOf base ⟨[(6, .c (.bool))], [], []⟩ (((x, ()), ()), ()))
def L_slices_EqualFunc_Rowint64__slices_Equal_int64_L0 : LoopSum := ⟨I_slices_EqualFunc_Rowint64__slices_Equal_int64_L0, O_slices_EqualFunc_Rowint64__slices_Equal_int64_L0, Unit ⊕ Bool, fun k d => slices_EqualFunc_Rowint64__slices_Equal_int64_L0 k k d.1.1.1 d.1.2.2.1.1 d.1.2.2.2.1.1 d.1.2.2.2.2.1.1, e_slices_EqualFunc_Rowint64__slices_Equal_int64_L0⟩
def A_slices_EqualFunc_Rowint64__slices_Equal_int64 : Notes := ⟨[], [(4, L_slices_EqualFunc_Rowint64__slices_Equal_int64_L0)]⟩
theorem E_slices_EqualFunc_Rowint64__slices_Equal_int64_ok : EnvOK E_slices_EqualFunc_Rowint64__slices_Equal_int64 := ⟨eqOK_none, sumsOf_ok (List.forall_mem_cons.2 ⟨R_slices_Equal_int64_ok, List.forall_mem_nil _⟩)⟩
theorem E_slices_EqualFunc_Rowint64__slices_Equal_int64_local : SumsLocal E_slices_EqualFunc_Rowint64__slices_Equal_int64.sums := sumsOf_local (List.forall_mem_cons.2 ⟨R_slices_Equal_int64_local, List.forall_mem_nil _⟩)
theorem slices_EqualFunc_Rowint64__slices_Equal_int64_L0_step (k : Nat) (rec : List (List Int) → List (List Int) → Int → Int → Option (Unit ⊕ Bool)) (d : I_slices_EqualFunc_Rowint64__slices_Equal_int64_L0.den) : slices_EqualFunc_Rowint64__slices_Equal_int64_L0b k rec d.1.1.1 d.1.2.2.1.1 d.1.2.2.2.1.1 d.1.2.2.2.2.1.1 = evC E_slices_EqualFunc_Rowint64__slices_Equal_int64 A_slices_EqualFunc_Rowint64__slices_Equal_int64 k 1000 0 32 (loopAt (bodyOf Proofs.Try.f64) 0) (stOf (1000 + loopBase) I_slices_EqualFunc_Rowint64__slices_Equal_int64_L0 d) (roundK 1000 I_slices_EqualFunc_Rowint64__slices_Equal_int64_L0 O_slices_EqualFunc_Rowint64__slices_Equal_int64_L0 T_slices_EqualFunc_Rowint64__slices_Equal_int64_L0 fun d => rec d.1.1.1 d.1.2.2.1.1 d.1.2.2.2.1.1 d.1.2.2.2.2.1.1) := by
  obtain ⟨⟨⟨_, _⟩, _, ⟨_, _⟩, ⟨_, _⟩, ⟨_, _⟩, _⟩, _⟩ := d
  kernel_rfl
theorem slices_EqualFunc_Rowint64__slices_Equal_int64_L0_ok : LoopOK Proofs.Try.prog 1000 0 32 (loopAt (bodyOf Proofs.Try.f64) 0) L_slices_EqualFunc_Rowint64__slices_Equal_int64_L0 :=
  loop_sound (A := A_slices_EqualFunc_Rowint64__slices_Equal_int64) (inS := I_slices_EqualFunc_Rowint64__slices_Equal_int64_L0) (outs := O_slices_EqualFunc_Rowint64__slices_Equal_int64_L0) E_slices_EqualFunc_Rowint64__slices_Equal_int64_ok E_slices_EqualFunc_Rowint64__slices_Equal_int64_local mixed_orders (loopsOK_none (by kernel_rfl)) T_slices_EqualFunc_Rowint64__slices_Equal_int64_L0 e_slices_EqualFunc_Rowint64__slices_Equal_int64_L0 (by intro o R K; rcases o with o | o <;> rfl) (fun k n d => slices_EqualFunc_Rowint64__slices_Equal_int64_L0 k n d.1.1.1 d.1.2.2.1.1 d.1.2.2.2.1.1 d.1.2.2.2.2.1.1) (fun _ _ => rfl) (fun k n d => slices_EqualFunc_Rowint64__slices_Equal_int64_L0_step k (slices_EqualFunc_Rowint64__slices_Equal_int64_L0 k n) d)
def as_slices_EqualFunc_Rowint64__slices_Equal_int64 : List AS := [.c (.dat false (.sl (.int .i64))), .c (.dat false (.sl (.int .i64))), .c (.fn 65)]
def rs_slices_EqualFunc_Rowint64__slices_Equal_int64 : RS := .c (.bool)
def pk_slices_EqualFunc_Rowint64__slices_Equal_int64 : Bool → RL rs_slices_EqualFunc_Rowint64__slices_Equal_int64.cells := fun x => (x, ())
def up_slices_EqualFunc_Rowint64__slices_Equal_int64 : RL rs_slices_EqualFunc_Rowint64__slices_Equal_int64.cells → Bool := fun d => d.1
def R_slices_EqualFunc_Rowint64__slices_Equal_int64 : Nat × Entry := (64, fun k nm args h => entry as_slices_EqualFunc_Rowint64__slices_Equal_int64 rs_slices_EqualFunc_Rowint64__slices_Equal_int64 (fun d => slices_EqualFunc_Rowint64__slices_Equal_int64 k d.1 d.2.1) pk_slices_EqualFunc_Rowint64__slices_Equal_int64 nm args h)
theorem slices_EqualFunc_Rowint64__slices_Equal_int64_ev (k : Nat) (d : AD as_slices_EqualFunc_Rowint64__slices_Equal_int64) : evF E_slices_EqualFunc_Rowint64__slices_Equal_int64 A_slices_EqualFunc_Rowint64__slices_Equal_int64 k 1000 0 Proofs.Try.f64 (absArgs as_slices_EqualFunc_Rowint64__slices_Equal_int64 d).1 (absArgs as_slices_EqualFunc_Rowint64__slices_Equal_int64 d).2 (outM rs_slices_EqualFunc_Rowint64__slices_Equal_int64 up_slices_EqualFunc_Rowint64__slices_Equal_int64) = slices_EqualFunc_Rowint64__slices_Equal_int64 k d.1 d.2.1 := by
  obtain ⟨_, _, _, _⟩ := d
  kernel_rfl
theorem R_slices_EqualFunc_Rowint64__slices_Equal_int64_ok : EntryOK Proofs.Try.prog R_slices_EqualFunc_Rowint64__slices_Equal_int64 := fun k _ _ _ _ _ hy =>
  entry_sound (unpack := up_slices_EqualFunc_Rowint64__slices_Equal_int64) (A := A_slices_EqualFunc_Rowint64__slices_Equal_int64) (k := k) (pre := 1000) (na := 0) (E := E_slices_EqualFunc_Rowint64__slices_Equal_int64) E_slices_EqualFunc_Rowint64__slices_Equal_int64_ok E_slices_EqualFunc_Rowint64__slices_Equal_int64_local mixed_orders (f := 64) (fn := Proofs.Try.f64) (by kernel_rfl) (body_loops (loopsOK_of (n := 1) (by kernel_rfl) fun i hi => match i, hi with | 0, _ => ⟨L_slices_EqualFunc_Rowint64__slices_Equal_int64_L0, by kernel_rfl, slices_EqualFunc_Rowint64__slices_Equal_int64_L0_ok⟩ | i + 1, hi => absurd hi (by omega))) (enters (fn := Proofs.Try.f64) (by kernel_rfl) (by kernel_rfl) (by kernel_rfl)) (fun _ => rfl) (slices_EqualFunc_Rowint64__slices_Equal_int64_ev k) hy
theorem R_slices_EqualFunc_Rowint64__slices_Equal_int64_local : EntryLocal R_slices_EqualFunc_Rowint64__slices_Equal_int64.2 := entry_local (S := fun k (d : AD as_slices_EqualFunc_Rowint64__slices_Equal_int64) => slices_EqualFunc_Rowint64__slices_Equal_int64 k d.1 d.2.1)

/-! ### giro/lim.Same -/
noncomputable def E_lim_Same : Env := ⟨Proofs.Try.prog, fun _ => false, sumsOf [R_slices_Equal_Acct, R_slices_EqualFunc_Rowint64__slices_Equal_int64, R_slices_Equal_int64]⟩
def A_lim_Same : Notes := ⟨[], []⟩
theorem E_lim_Same_ok : EnvOK E_lim_Same := ⟨eqOK_none, sumsOf_ok (List.forall_mem_cons.2 ⟨R_slices_Equal_Acct_ok, List.forall_mem_cons.2 ⟨R_slices_EqualFunc_Rowint64__slices_Equal_int64_ok, List.forall_mem_cons.2 ⟨R_slices_Equal_int64_ok, List.forall_mem_nil _⟩⟩⟩)⟩
theorem E_lim_Same_local : SumsLocal E_lim_Same.sums := sumsOf_local (List.forall_mem_cons.2 ⟨R_slices_Equal_Acct_local, List.forall_mem_cons.2 ⟨R_slices_EqualFunc_Rowint64__slices_Equal_int64_local, List.forall_mem_cons.2 ⟨R_slices_Equal_int64_local, List.forall_mem_nil _⟩⟩⟩)
def as_lim_Same : List AS := [.agg [.dat false (.pair (.int .i64) (.pair (.int .i64) (.int .i64))), .dat false (.sl (.int .i64)), .dat false (.int .i64), .dat false (.sl (.int .i64))], .agg [.dat false (.pair (.int .i64) (.pair (.int .i64) (.int .i64))), .dat false (.sl (.int .i64)), .dat false (.int .i64), .dat false (.sl (.int .i64))]]
def rs_lim_Same : RS := .c (.bool)
def pk_lim_Same : Bool → RL rs_lim_Same.cells := fun x => (x, ())
def up_lim_Same : RL rs_lim_Same.cells → Bool := fun d => d.1
def R_lim_Same : Nat × Entry := (21, fun k nm args h => entry as_lim_Same rs_lim_Same (fun d => lim_Same k d.1 d.2.1 d.2.2.1 d.2.2.2.1 d.2.2.2.2.1 d.2.2.2.2.2.1 d.2.2.2.2.2.2.1 d.2.2.2.2.2.2.2.1) pk_lim_Same nm args h)
theorem lim_Same_ev (k : Nat) (d : AD as_lim_Same) : evF E_lim_Same A_lim_Same k 1000 0 Proofs.Try.f21 (absArgs as_lim_Same d).1 (absArgs as_lim_Same d).2 (outM rs_lim_Same up_lim_Same) = lim_Same k d.1 d.2.1 d.2.2.1 d.2.2.2.1 d.2.2.2.2.1 d.2.2.2.2.2.1 d.2.2.2.2.2.2.1 d.2.2.2.2.2.2.2.1 := by
  obtain ⟨_, _, _, _, _, _, _, _, _⟩ := d
  kernel_rfl
theorem R_lim_Same_ok : EntryOK Proofs.Try.prog R_lim_Same := fun k _ _ _ _ _ hy =>
  entry_sound (unpack := up_lim_Same) (A := A_lim_Same) (k := k) (pre := 1000) (na := 0) (E := E_lim_Same) E_lim_Same_ok E_lim_Same_local mixed_orders (f := 21) (fn := Proofs.Try.f21) (by kernel_rfl) (body_loops (loopsOK_none (by kernel_rfl))) (enters (fn := Proofs.Try.f21) (by kernel_rfl) (by kernel_rfl) (by kernel_rfl)) (fun _ => rfl) (lim_Same_ev k) hy
theorem R_lim_Same_local : EntryLocal R_lim_Same.2 := entry_local (S := fun k (d : AD as_lim_Same) => lim_Same k d.1 d.2.1 d.2.2.1 d.2.2.2.1 d.2.2.2.2.1 d.2.2.2.2.2.1 d.2.2.2.2.2.2.1 d.2.2.2.2.2.2.2.1)

/-! ### giro/girolaw10.known -/
noncomputable def E_girolaw10_known : Env := ⟨Proofs.Try.prog, fun _ => false, sumsOf [R_girolaw10_some, R_lim_Square, R_giroref10_Rows, R_lim_Is, R_lim_Net, R_lim_Copy, R_lim_Same]⟩
def A_girolaw10_known : Notes := ⟨[7], []⟩
theorem E_girolaw10_known_ok : EnvOK E_girolaw10_known := ⟨eqOK_none, sumsOf_ok (List.forall_mem_cons.2 ⟨R_girolaw10_some_ok, List.forall_mem_cons.2 ⟨R_lim_Square_ok, List.forall_mem_cons.2 ⟨R_giroref10_Rows_ok, List.forall_mem_cons.2 ⟨R_lim_Is_ok, List.forall_mem_cons.2 ⟨R_lim_Net_ok, List.forall_mem_cons.2 ⟨R_lim_Copy_ok, List.forall_mem_cons.2 ⟨R_lim_Same_ok, List.forall_mem_nil _⟩⟩⟩⟩⟩⟩⟩)⟩
theorem E_girolaw10_known_local : SumsLocal E_girolaw10_known.sums := sumsOf_local (List.forall_mem_cons.2 ⟨R_girolaw10_some_local, List.forall_mem_cons.2 ⟨R_lim_Square_local, List.forall_mem_cons.2 ⟨R_giroref10_Rows_local, List.forall_mem_cons.2 ⟨R_lim_Is_local, List.forall_mem_cons.2 ⟨R_lim_Net_local, List.forall_mem_cons.2 ⟨R_lim_Copy_local, List.forall_mem_cons.2 ⟨R_lim_Same_local, List.forall_mem_nil _⟩⟩⟩⟩⟩⟩⟩)
def as_girolaw10_known : List AS := []
def rs_girolaw10_known : RS := .c (.bool)
def pk_girolaw10_known : Bool → RL rs_girolaw10_known.cells := fun x => (x, ())
def up_girolaw10_known : RL rs_girolaw10_known.cells → Bool := fun d => d.1
def R_girolaw10_known : Nat × Entry := (18, fun k nm args h => entry as_girolaw10_known rs_girolaw10_known (fun d => girolaw10_known k) pk_girolaw10_known nm args h)
theorem girolaw10_known_ev (k : Nat) (d : AD as_girolaw10_known) : evF E_girolaw10_known A_girolaw10_known k 1000 0 Proofs.Try.f18 (absArgs as_girolaw10_known d).1 (absArgs as_girolaw10_known d).2 (outM rs_girolaw10_known up_girolaw10_known) = girolaw10_known k := by
  kernel_rfl
theorem R_girolaw10_known_ok : EntryOK Proofs.Try.prog R_girolaw10_known := fun k _ _ _ _ _ hy =>
  entry_sound (unpack := up_girolaw10_known) (A := A_girolaw10_known) (k := k) (pre := 1000) (na := 0) (E := E_girolaw10_known) E_girolaw10_known_ok E_girolaw10_known_local mixed_orders (f := 18) (fn := Proofs.Try.f18) (by kernel_rfl) (body_loops (loopsOK_none (by kernel_rfl))) (enters (fn := Proofs.Try.f18) (by kernel_rfl) (by kernel_rfl) (by kernel_rfl)) (fun _ => rfl) (girolaw10_known_ev k) hy
theorem R_girolaw10_known_local : EntryLocal R_girolaw10_known.2 := entry_local (S := fun k (d : AD as_girolaw10_known) => girolaw10_known k)

/-! ### giro/girolaw10.LimSquares -/
noncomputable def E_girolaw10_LimSquares : Env := ⟨Proofs.Try.prog, fun _ => false, sumsOf [R_lim_Square, R_giroref10_Square, R_giroref10_Rows, R_lim_Row, R_girolaw10_known]⟩
def I_girolaw10_LimSquares_L1 : Spec := ⟨[(0, .c (.int .i64)), (1, .c (.int .i64)), (2, .c (.int .i64)), (3, .c (.int .i64)), (9, .c (.lit (.osl 1001000 none))), (10, .c (.int .i64)), (11, .c (.int .i64))], [.mat], []⟩
def O_girolaw10_LimSquares_L1 : List (Ex × Spec) := [(.exit 2, ⟨[(0, .c (.int .i64)), (1, .c (.int .i64)), (2, .c (.int .i64)), (3, .c (.int .i64)), (9, .c (.lit (.osl 1001000 none))), (10, .c (.int .i64))], [.mat], []⟩), (.ret, ⟨[(8, .c (.bool))], [], []⟩)]
def T_girolaw10_LimSquares_L1 : OutD O_girolaw10_LimSquares_L1 → (Int × Int × Int × Int × Int × (List (List Int))) ⊕ Bool
 | .inl d => .inl (d.1.1.1, d.1.2.1.1, d.1.2.2.1.1, d.1.2.2.2.1.1, d.1.2.2.2.2.2.1.1, d.2.1)
 | .inr d => .inr d.1.1.1
def e_girolaw10_LimSquares_L1 (base : Nat) (x : (Int × Int × Int × Int × Int × (List (List Int))) ⊕ Bool) (R : Type) (K : Ex → St → Option R) : Option R := match x with
 | .inl x => K (.exit 2) (stOf base ⟨[(0, .c (.int .i64)), (1, .c (.int .i64)), (2, .c (.int .i64)), (3, .c (.int .i64)), (9, .c (.lit (.osl 1001000 none))), (10, .c (.int .i64))], [.mat], []⟩ (((x.1, ()), (x.2.1, ()), (x.2.2.1, ()), (x.2.2.2.1, ()), (), (x.2.2.2.2.1, ()), ()), (x.2.2.2.2.2, ())))
 | .inr x => K .ret (stOf base ⟨[(8, .c (.bool))], [], []⟩ (((x, ()), ()), ()))
def L_girolaw10_LimSquares_L1 : LoopSum := ⟨I_girolaw10_LimSquares_L1, O_girolaw10_LimSquares_L1, (Int × Int × Int × Int × Int × (List (List Int))) ⊕ Bool, fun k d => girolaw10_LimSquares_L1 k k d.1.1.1 d.1.2.1.1 d.1.2.2.1.1 d.1.2.2.2.1.1 d.1.2.2.2.2.2.1.1 d.1.2.2.2.2.2.2.1.1 d.2.1, e_girolaw10_LimSquares_L1⟩
def I_girolaw10_LimSquares_L0 : Spec := ⟨[(0, .c (.int .i64)), (1, .c (.int .i64)), (2, .c (.int .i64)), (3, .c (.int .i64)), (9, .c (.lit (.osl 1001000 none))), (10, .c (.int .i64))], [.mat], []⟩
def O_girolaw10_LimSquares_L0 : List (Ex × Spec) := [(.exit 0, ⟨[(1, .c (.int .i64))], [], []⟩), (.ret, ⟨[(8, .c (.bool))], [], []⟩)]
def T_girolaw10_LimSquares_L0 : OutD O_girolaw10_LimSquares_L0 → Int ⊕ Bool
 | .inl d => .inl d.1.1.1
 | .inr d => .inr d.1.1.1
def e_girolaw10_LimSquares_L0 (base : Nat) (x : Int ⊕ Bool) (R : Type) (K : Ex → St → Option R) : Option R := match x with
 | .inl x => K (.exit 0) (stOf base ⟨[(1, .c (.int .i64))], [], []⟩ (((x, ()), ()), ()))
 | .inr x => K .ret (stOf base ⟨[(8, .c (.bool))], [], []⟩ (((x, ()), ()), ()))
def L_girolaw10_LimSquares_L0 : LoopSum := ⟨I_girolaw10_LimSquares_L0, O_girolaw10_LimSquares_L0, Int ⊕ Bool, fun k d => girolaw10_LimSquares_L0 k k d.1.1.1 d.1.2.1.1 d.1.2.2.1.1 d.1.2.2.2.1.1 d.1.2.2.2.2.2.1.1 d.2.1, e_girolaw10_LimSquares_L0⟩
def A_girolaw10_LimSquares : Notes := ⟨[], [(11, L_girolaw10_LimSquares_L1), (8, L_girolaw10_LimSquares_L0)]⟩
theorem E_girolaw10_LimSquares_ok : EnvOK E_girolaw10_LimSquares := ⟨eqOK_none, sumsOf_ok (List.forall_mem_cons.2 ⟨R_lim_Square_ok, List.forall_mem_cons.2 ⟨R_giroref10_Square_ok, List.forall_mem_cons.2 ⟨R_giroref10_Rows_ok, List.forall_mem_cons.2 ⟨R_lim_Row_ok, List.forall_mem_cons.2 ⟨R_girolaw10_known_ok, List.forall_mem_nil _⟩⟩⟩⟩⟩)⟩
theorem E_girolaw10_LimSquares_local : SumsLocal E_girolaw10_LimSquares.sums := sumsOf_local (List.forall_mem_cons.2 ⟨R_lim_Square_local, List.forall_mem_cons.2 ⟨R_giroref10_Square_local, List.forall_mem_cons.2 ⟨R_giroref10_Rows_local, List.forall_mem_cons.2 ⟨R_lim_Row_local, List.forall_mem_cons.2 ⟨R_girolaw10_known_local, List.forall_mem_nil _⟩⟩⟩⟩⟩)
theorem girolaw10_LimSquares_L1_step (k : Nat) (rec : Int → Int → Int → Int → Int → Int → List (List Int) → Option ((Int × Int × Int × Int × Int × (List (List Int))) ⊕ Bool)) (d : I_girolaw10_LimSquares_L1.den) : girolaw10_LimSquares_L1b k rec d.1.1.1 d.1.2.1.1 d.1.2.2.1.1 d.1.2.2.2.1.1 d.1.2.2.2.2.2.1.1 d.1.2.2.2.2.2.2.1.1 d.2.1 = evC E_girolaw10_LimSquares A_girolaw10_LimSquares k 1000 0 94 (loopAt (loopAt (bodyOf Proofs.Try.f5) 0) 0) (stOf (1000 + loopBase) I_girolaw10_LimSquares_L1 d) (roundK 1000 I_girolaw10_LimSquares_L1 O_girolaw10_LimSquares_L1 T_girolaw10_LimSquares_L1 fun d => rec d.1.1.1 d.1.2.1.1 d.1.2.2.1.1 d.1.2.2.2.1.1 d.1.2.2.2.2.2.1.1 d.1.2.2.2.2.2.2.1.1 d.2.1) := by
  obtain ⟨⟨⟨_, _⟩, ⟨_, _⟩, ⟨_, _⟩, ⟨_, _⟩, _, ⟨_, _⟩, ⟨_, _⟩, _⟩, ⟨_, _⟩⟩ := d
  kernel_rfl
theorem girolaw10_LimSquares_L1_ok : LoopOK Proofs.Try.prog 1000 0 94 (loopAt (loopAt (bodyOf Proofs.Try.f5) 0) 0) L_girolaw10_LimSquares_L1 :=
  loop_sound (A := A_girolaw10_LimSquares) (inS := I_girolaw10_LimSquares_L1) (outs := O_girolaw10_LimSquares_L1) E_girolaw10_LimSquares_ok E_girolaw10_LimSquares_local mixed_orders (loopsOK_none (by kernel_rfl)) T_girolaw10_LimSquares_L1 e_girolaw10_LimSquares_L1 (by intro o R K; rcases o with o | o <;> rfl) (fun k n d => girolaw10_LimSquares_L1 k n d.1.1.1 d.1.2.1.1 d.1.2.2.1.1 d.1.2.2.2.1.1 d.1.2.2.2.2.2.1.1 d.1.2.2.2.2.2.2.1.1 d.2.1) (fun _ _ => rfl) (fun k n d => girolaw10_LimSquares_L1_step k (girolaw10_LimSquares_L1 k n) d)
theorem girolaw10_LimSquares_L0_step (k : Nat) (rec : Int → Int → Int → Int → Int → List (List Int) → Option (Int ⊕ Bool)) (d : I_girolaw10_LimSquares_L0.den) : girolaw10_LimSquares_L0b k rec d.1.1.1 d.1.2.1.1 d.1.2.2.1.1 d.1.2.2.2.1.1 d.1.2.2.2.2.2.1.1 d.2.1 = evC E_girolaw10_LimSquares A_girolaw10_LimSquares k 1000 0 94 (loopAt (bodyOf Proofs.Try.f5) 0) (stOf (1000 + loopBase) I_girolaw10_LimSquares_L0 d) (roundK 1000 I_girolaw10_LimSquares_L0 O_girolaw10_LimSquares_L0 T_girolaw10_LimSquares_L0 fun d => rec d.1.1.1 d.1.2.1.1 d.1.2.2.1.1 d.1.2.2.2.1.1 d.1.2.2.2.2.2.1.1 d.2.1) := by
  obtain ⟨⟨⟨_, _⟩, ⟨_, _⟩, ⟨_, _⟩, ⟨_, _⟩, _, ⟨_, _⟩, _⟩, ⟨_, _⟩⟩ := d
  kernel_rfl
theorem girolaw10_LimSquares_L0_ok : LoopOK Proofs.Try.prog 1000 0 94 (loopAt (bodyOf Proofs.Try.f5) 0) L_girolaw10_LimSquares_L0 :=
  loop_sound (A := A_girolaw10_LimSquares) (inS := I_girolaw10_LimSquares_L0) (outs := O_girolaw10_LimSquares_L0) E_girolaw10_LimSquares_ok E_girolaw10_LimSquares_local mixed_orders (loopsOK_of (n := 1) (by kernel_rfl) fun i hi => match i, hi with | 0, _ => ⟨L_girolaw10_LimSquares_L1, by kernel_rfl, girolaw10_LimSquares_L1_ok⟩ | i + 1, hi => absurd hi (by omega)) T_girolaw10_LimSquares_L0 e_girolaw10_LimSquares_L0 (by intro o R K; rcases o with o | o <;> rfl) (fun k n d => girolaw10_LimSquares_L0 k n d.1.1.1 d.1.2.1.1 d.1.2.2.1.1 d.1.2.2.2.1.1 d.1.2.2.2.2.2.1.1 d.2.1) (fun _ _ => rfl) (fun k n d => girolaw10_LimSquares_L0_step k (girolaw10_LimSquares_L0 k n) d)
def as_girolaw10_LimSquares : List AS := [.c (.int .i64), .c (.int .i64), .c (.int .i64), .c (.int .i64)]
def rs_girolaw10_LimSquares : RS := .c (.bool)
def pk_girolaw10_LimSquares : Bool → RL rs_girolaw10_LimSquares.cells := fun x => (x, ())
def up_girolaw10_LimSquares : RL rs_girolaw10_LimSquares.cells → Bool := fun d => d.1
def R_girolaw10_LimSquares : Nat × Entry := (5, fun k nm args h => entry as_girolaw10_LimSquares rs_girolaw10_LimSquares (fun d => girolaw10_LimSquares k d.1 d.2.1 d.2.2.1 d.2.2.2.1) pk_girolaw10_LimSquares nm args h)
theorem girolaw10_LimSquares_ev (k : Nat) (d : AD as_girolaw10_LimSquares) : evF E_girolaw10_LimSquares A_girolaw10_LimSquares k 1000 0 Proofs.Try.f5 (absArgs as_girolaw10_LimSquares d).1 (absArgs as_girolaw10_LimSquares d).2 (outM rs_girolaw10_LimSquares up_girolaw10_LimSquares) = girolaw10_LimSquares k d.1 d.2.1 d.2.2.1 d.2.2.2.1 := by
  obtain ⟨_, _, _, _, _⟩ := d
  kernel_rfl
theorem R_girolaw10_LimSquares_ok : EntryOK Proofs.Try.prog R_girolaw10_LimSquares := fun k _ _ _ _ _ hy =>
  entry_sound (unpack := up_girolaw10_LimSquares) (A := A_girolaw10_LimSquares) (k := k) (pre := 1000) (na := 0) (E := E_girolaw10_LimSquares) E_girolaw10_LimSquares_ok E_girolaw10_LimSquares_local mixed_orders (f := 5) (fn := Proofs.Try.f5) (by kernel_rfl) (body_loops (loopsOK_of (n := 1) (by kernel_rfl) fun i hi => match i, hi with | 0, _ => ⟨L_girolaw10_LimSquares_L0, by kernel_rfl, girolaw10_LimSquares_L0_ok⟩ | i + 1, hi => absurd hi (by omega))) (enters (fn := Proofs.Try.f5) (by kernel_rfl) (by kernel_rfl) (by kernel_rfl)) (fun _ => rfl) (girolaw10_LimSquares_ev k) hy
theorem R_girolaw10_LimSquares_local : EntryLocal R_girolaw10_LimSquares.2 := entry_local (S := fun k (d : AD as_girolaw10_LimSquares) => girolaw10_LimSquares k d.1 d.2.1 d.2.2.1 d.2.2.2.1)

end Go.Ab.Gi
