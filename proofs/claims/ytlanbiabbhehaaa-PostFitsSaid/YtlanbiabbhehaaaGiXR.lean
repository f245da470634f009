/- The shallow functions are what the program does, printed (abprint.py). -/
import Derived.Test.YtlanbiabbhehaaaGiXS
import Derived.Test.YtlanbiabbhehaaaProg
set_option linter.unusedVariables false
set_option maxRecDepth 100000
namespace Go.Ab.Gi

theorem mixed_orders : Proofs.Try.prog.follows .mixedOrders = true := by kernel_rfl

/-! ### giro/girolaw16.some -/
noncomputable def E_girolaw16_some : Env := ⟨Proofs.Try.prog, fun _ => false, sumsOf []⟩
def I_girolaw16_some_L0 : Spec := ⟨[(0, .c (.dat false (.int .i64))), (1, .c (.int .i64)), (4, .c (.lit (.ptr 1001000 0))), (5, .c (.lit (.ptr 1001001 0))), (6, .c (.int .i64))], [.box true [.lit .nsl, .lit .nsl, .lit .nsl, .lit .nsl], .box true [.lit (.osl 1001002 none), .lit (.osl 1001003 none), .lit (.osl 1001004 none), .lit (.osl 1001005 none)], .arr true (.pair (.int .i64) (.pair (.int .i64) (.int .i64))), .mat, .arr true (.int .i64), .mat], [(5, some 0, (.pair (.int .i64) (.pair (.int .i64) (.int .i64))), false)]⟩
def O_girolaw16_some_L0 : List (Ex × Spec) := [(.exit 0, ⟨[(1, .c (.int .i64)), (4, .c (.lit (.ptr 1001000 0))), (5, .c (.lit (.ptr 1001001 0)))], [.box true [.lit .nsl, .lit .nsl, .lit .nsl, .lit .nsl], .box true [.lit (.osl 1001002 none), .lit (.osl 1001003 none), .lit (.osl 1001004 none), .lit (.osl 1001005 none)], .arr true (.pair (.int .i64) (.pair (.int .i64) (.int .i64))), .mat, .arr true (.int .i64), .mat], []⟩)]
def T_girolaw16_some_L0 : OutD O_girolaw16_some_L0 → Int × (List (Int × Int × Int)) × (List (List Int)) × (List Int) × (List (List Int)) := fun d => (d.1.1.1, d.2.2.2.1, d.2.2.2.2.1, d.2.2.2.2.2.1, d.2.2.2.2.2.2.1)
def e_girolaw16_some_L0 (base : Nat) (x : Int × (List (Int × Int × Int)) × (List (List Int)) × (List Int) × (List (List Int))) (R : Type) (K : Ex → St → Option R) : Option R := K (.exit 0) (stOf base ⟨[(1, .c (.int .i64)), (4, .c (.lit (.ptr 1001000 0))), (5, .c (.lit (.ptr 1001001 0)))], [.box true [.lit .nsl, .lit .nsl, .lit .nsl, .lit .nsl], .box true [.lit (.osl 1001002 none), .lit (.osl 1001003 none), .lit (.osl 1001004 none), .lit (.osl 1001005 none)], .arr true (.pair (.int .i64) (.pair (.int .i64) (.int .i64))), .mat, .arr true (.int .i64), .mat], []⟩ (((x.1, ()), (), (), ()), ((), (), x.2.1, x.2.2.1, x.2.2.2.1, x.2.2.2.2, ())))
def L_girolaw16_some_L0 : LoopSum := ⟨I_girolaw16_some_L0, O_girolaw16_some_L0, Int × (List (Int × Int × Int)) × (List (List Int)) × (List Int) × (List (List Int)), fun k d => girolaw16_some_L0 k k d.1.1.1 d.1.2.1.1 d.1.2.2.2.2.1.1 d.2.2.2.1 d.2.2.2.2.1 d.2.2.2.2.2.1 d.2.2.2.2.2.2.1, e_girolaw16_some_L0⟩
def A_girolaw16_some : Notes := ⟨[11, 16], [(3, L_girolaw16_some_L0)]⟩
theorem E_girolaw16_some_ok : EnvOK E_girolaw16_some := ⟨eqOK_none, sumsOf_ok (List.forall_mem_nil _)⟩
theorem E_girolaw16_some_local : SumsLocal E_girolaw16_some.sums := sumsOf_local (List.forall_mem_nil _)
theorem girolaw16_some_L0_step (k : Nat) (rec : List Int → Int → Int → List (Int × Int × Int) → List (List Int) → List Int → List (List Int) → Option (Int × (List (Int × Int × Int)) × (List (List Int)) × (List Int) × (List (List Int)))) (d : I_girolaw16_some_L0.den) : girolaw16_some_L0b k rec d.1.1.1 d.1.2.1.1 d.1.2.2.2.2.1.1 d.2.2.2.1 d.2.2.2.2.1 d.2.2.2.2.2.1 d.2.2.2.2.2.2.1 = evC E_girolaw16_some A_girolaw16_some k 1000 0 91 (loopAt (bodyOf Proofs.Try.f16) 0) (stOf (1000 + loopBase) I_girolaw16_some_L0 d) (roundK 1000 I_girolaw16_some_L0 O_girolaw16_some_L0 T_girolaw16_some_L0 fun d => rec d.1.1.1 d.1.2.1.1 d.1.2.2.2.2.1.1 d.2.2.2.1 d.2.2.2.2.1 d.2.2.2.2.2.1 d.2.2.2.2.2.2.1) := by
  obtain ⟨⟨⟨_, _⟩, ⟨_, _⟩, _, _, ⟨_, _⟩, _⟩, ⟨_, _, _, _, _, _, _⟩⟩ := d
  kernel_rfl
theorem girolaw16_some_L0_ok : LoopOK Proofs.Try.prog 1000 0 91 (loopAt (bodyOf Proofs.Try.f16) 0) L_girolaw16_some_L0 :=
  loop_sound (A := A_girolaw16_some) (inS := I_girolaw16_some_L0) (outs := O_girolaw16_some_L0) E_girolaw16_some_ok E_girolaw16_some_local mixed_orders (loopsOK_none (by kernel_rfl)) T_girolaw16_some_L0 e_girolaw16_some_L0 (fun _ _ _ => rfl) (fun k n d => girolaw16_some_L0 k n d.1.1.1 d.1.2.1.1 d.1.2.2.2.2.1.1 d.2.2.2.1 d.2.2.2.2.1 d.2.2.2.2.2.1 d.2.2.2.2.2.2.1) (fun _ _ => rfl) (fun k n d => girolaw16_some_L0_step k (girolaw16_some_L0 k n) d)
def as_girolaw16_some : List AS := [.c (.dat false (.int .i64)), .c (.int .i64)]
def rs_girolaw16_some : RS := .agg [.own (.pair (.int .i64) (.pair (.int .i64) (.int .i64))), .mat, .own (.int .i64), .mat]
def pk_girolaw16_some : (List (Int × Int × Int)) × (List (List Int)) × (List Int) × (List (List Int)) → RL rs_girolaw16_some.cells := fun x => (x.1, x.2.1, x.2.2.1, x.2.2.2, ())
def up_girolaw16_some : RL rs_girolaw16_some.cells → (List (Int × Int × Int)) × (List (List Int)) × (List Int) × (List (List Int)) := fun d => (d.1, d.2.1, d.2.2.1, d.2.2.2.1)
def R_girolaw16_some : Nat × Entry := (16, fun k nm args h => entry as_girolaw16_some rs_girolaw16_some (fun d => girolaw16_some k d.1 d.2.1) pk_girolaw16_some nm args h)
theorem girolaw16_some_ev (k : Nat) (d : AD as_girolaw16_some) : evF E_girolaw16_some A_girolaw16_some k 1000 0 Proofs.Try.f16 (absArgs as_girolaw16_some d).1 (absArgs as_girolaw16_some d).2 (outM rs_girolaw16_some up_girolaw16_some) = girolaw16_some k d.1 d.2.1 := by
  obtain ⟨_, _, _⟩ := d
  kernel_rfl
theorem R_girolaw16_some_ok : EntryOK Proofs.Try.prog R_girolaw16_some := fun k _ _ _ _ _ hy =>
  entry_sound (unpack := up_girolaw16_some) (A := A_girolaw16_some) (k := k) (pre := 1000) (na := 0) (E := E_girolaw16_some) E_girolaw16_some_ok E_girolaw16_some_local mixed_orders (f := 16) (fn := Proofs.Try.f16) (by kernel_rfl) (body_loops (loopsOK_of (n := 1) (by kernel_rfl) fun i hi => match i, hi with | 0, _ => ⟨L_girolaw16_some_L0, by kernel_rfl, girolaw16_some_L0_ok⟩ | i + 1, hi => absurd hi (by omega))) (enters (fn := Proofs.Try.f16) (by kernel_rfl) (by kernel_rfl) (by kernel_rfl)) (fun _ => rfl) (girolaw16_some_ev k) hy
theorem R_girolaw16_some_local : EntryLocal R_girolaw16_some.2 := entry_local (S := fun k (d : AD as_girolaw16_some) => girolaw16_some k d.1 d.2.1)

/-! ### giro/giroref13.Find -/
noncomputable def E_giroref13_Find : Env := ⟨Proofs.Try.prog, fun _ => false, sumsOf []⟩
def I_giroref13_Find_L0 : Spec := ⟨[(0, .c (.dat false (.pair (.int .i64) (.pair (.int .i64) (.pair (.int .i64) (.pair (.int .i64) (.pair (.int .i64) (.pair (.int .i64) (.int .i64))))))))), (1, .c (.int .i64)), (5, .c (.int .i64))], [], []⟩
def O_giroref13_Find_L0 : List (Ex × Spec) := [(.exit 0, ⟨[], [], []⟩), (.ret, ⟨[(4, .c (.int .i64))], [], []⟩)]
def T_giroref13_Find_L0 : OutD O_giroref13_Find_L0 → Unit ⊕ Int
 | .inl d => .inl ()
 | .inr d => .inr d.1.1.1
def e_giroref13_Find_L0 (base : Nat) (x : Unit ⊕ Int) (R : Type) (K : Ex → St → Option R) : Option R := match x with
 | .inl x => K (.exit 0) (stOf base ⟨[], [], []⟩ ((), ()))
 | .inr x => K .ret (stOf base ⟨[(4, .c (.int .i64))], [], []⟩ (((x, ()), ()), ()))
def L_giroref13_Find_L0 : LoopSum := ⟨I_giroref13_Find_L0, O_giroref13_Find_L0, Unit ⊕ Int, fun k d => giroref13_Find_L0 k k d.1.1.1 d.1.2.1.1 d.1.2.2.1.1, e_giroref13_Find_L0⟩
def A_giroref13_Find : Notes := ⟨[], [(2, L_giroref13_Find_L0)]⟩
theorem E_giroref13_Find_ok : EnvOK E_giroref13_Find := ⟨eqOK_none, sumsOf_ok (List.forall_mem_nil _)⟩
theorem E_giroref13_Find_local : SumsLocal E_giroref13_Find.sums := sumsOf_local (List.forall_mem_nil _)
theorem giroref13_Find_L0_step (k : Nat) (rec : List (Int × Int × Int × Int × Int × Int × Int) → Int → Int → Option (Unit ⊕ Int)) (d : I_giroref13_Find_L0.den) : giroref13_Find_L0b k rec d.1.1.1 d.1.2.1.1 d.1.2.2.1.1 = evC E_giroref13_Find A_giroref13_Find k 1000 0 20 (loopAt (bodyOf Proofs.Try.f54) 0) (stOf (1000 + loopBase) I_giroref13_Find_L0 d) (roundK 1000 I_giroref13_Find_L0 O_giroref13_Find_L0 T_giroref13_Find_L0 fun d => rec d.1.1.1 d.1.2.1.1 d.1.2.2.1.1) := by
  obtain ⟨⟨⟨_, _⟩, ⟨_, _⟩, ⟨_, _⟩, _⟩, _⟩ := d
  kernel_rfl
theorem giroref13_Find_L0_ok : LoopOK Proofs.Try.prog 1000 0 20 (loopAt (bodyOf Proofs.Try.f54) 0) L_giroref13_Find_L0 :=
  loop_sound (A := A_giroref13_Find) (inS := I_giroref13_Find_L0) (outs := O_giroref13_Find_L0) E_giroref13_Find_ok E_giroref13_Find_local mixed_orders (loopsOK_none (by kernel_rfl)) T_giroref13_Find_L0 e_giroref13_Find_L0 (by intro o R K; rcases o with o | o <;> rfl) (fun k n d => giroref13_Find_L0 k n d.1.1.1 d.1.2.1.1 d.1.2.2.1.1) (fun _ _ => rfl) (fun k n d => giroref13_Find_L0_step k (giroref13_Find_L0 k n) d)
def as_giroref13_Find : List AS := [.c (.dat false (.pair (.int .i64) (.pair (.int .i64) (.pair (.int .i64) (.pair (.int .i64) (.pair (.int .i64) (.pair (.int .i64) (.int .i64)))))))), .c (.int .i64)]
def rs_giroref13_Find : RS := .c (.int .i64)
def pk_giroref13_Find : Int → RL rs_giroref13_Find.cells := fun x => (x, ())
def up_giroref13_Find : RL rs_giroref13_Find.cells → Int := fun d => d.1
def R_giroref13_Find : Nat × Entry := (54, fun k nm args h => entry as_giroref13_Find rs_giroref13_Find (fun d => giroref13_Find k d.1 d.2.1) pk_giroref13_Find nm args h)
theorem giroref13_Find_ev (k : Nat) (d : AD as_giroref13_Find) : evF E_giroref13_Find A_giroref13_Find k 1000 0 Proofs.Try.f54 (absArgs as_giroref13_Find d).1 (absArgs as_giroref13_Find d).2 (outM rs_giroref13_Find up_giroref13_Find) = giroref13_Find k d.1 d.2.1 := by
  obtain ⟨_, _, _⟩ := d
  kernel_rfl
theorem R_giroref13_Find_ok : EntryOK Proofs.Try.prog R_giroref13_Find := fun k _ _ _ _ _ hy =>
  entry_sound (unpack := up_giroref13_Find) (A := A_giroref13_Find) (k := k) (pre := 1000) (na := 0) (E := E_giroref13_Find) E_giroref13_Find_ok E_giroref13_Find_local mixed_orders (f := 54) (fn := Proofs.Try.f54) (by kernel_rfl) (body_loops (loopsOK_of (n := 1) (by kernel_rfl) fun i hi => match i, hi with | 0, _ => ⟨L_giroref13_Find_L0, by kernel_rfl, giroref13_Find_L0_ok⟩ | i + 1, hi => absurd hi (by omega))) (enters (fn := Proofs.Try.f54) (by kernel_rfl) (by kernel_rfl) (by kernel_rfl)) (fun _ => rfl) (giroref13_Find_ev k) hy
theorem R_giroref13_Find_local : EntryLocal R_giroref13_Find.2 := entry_local (S := fun k (d : AD as_giroref13_Find) => giroref13_Find k d.1 d.2.1)

/-! ### giro/giroref13.ahead -/
noncomputable def E_giroref13_ahead : Env := ⟨Proofs.Try.prog, fun _ => false, sumsOf []⟩
def A_giroref13_ahead : Notes := ⟨[], []⟩
theorem E_giroref13_ahead_ok : EnvOK E_giroref13_ahead := ⟨eqOK_none, sumsOf_ok (List.forall_mem_nil _)⟩
theorem E_giroref13_ahead_local : SumsLocal E_giroref13_ahead.sums := sumsOf_local (List.forall_mem_nil _)
def as_giroref13_ahead : List AS := [.agg [.int .i64, .int .i64, .int .i64, .int .i64, .int .i64, .int .i64, .int .i64], .agg [.int .i64, .int .i64, .int .i64, .int .i64, .int .i64, .int .i64, .int .i64]]
def rs_giroref13_ahead : RS := .c (.bool)
def pk_giroref13_ahead : Bool → RL rs_giroref13_ahead.cells := fun x => (x, ())
def up_giroref13_ahead : RL rs_giroref13_ahead.cells → Bool := fun d => d.1
def R_giroref13_ahead : Nat × Entry := (62, fun k nm args h => entry as_giroref13_ahead rs_giroref13_ahead (fun d => giroref13_ahead k d.1 d.2.1 d.2.2.1 d.2.2.2.1 d.2.2.2.2.1 d.2.2.2.2.2.1 d.2.2.2.2.2.2.1 d.2.2.2.2.2.2.2.1 d.2.2.2.2.2.2.2.2.1 d.2.2.2.2.2.2.2.2.2.1 d.2.2.2.2.2.2.2.2.2.2.1 d.2.2.2.2.2.2.2.2.2.2.2.1 d.2.2.2.2.2.2.2.2.2.2.2.2.1 d.2.2.2.2.2.2.2.2.2.2.2.2.2.1) pk_giroref13_ahead nm args h)
theorem giroref13_ahead_ev (k : Nat) (d : AD as_giroref13_ahead) : evF E_giroref13_ahead A_giroref13_ahead k 1000 0 Proofs.Try.f62 (absArgs as_giroref13_ahead d).1 (absArgs as_giroref13_ahead d).2 (outM rs_giroref13_ahead up_giroref13_ahead) = giroref13_ahead k d.1 d.2.1 d.2.2.1 d.2.2.2.1 d.2.2.2.2.1 d.2.2.2.2.2.1 d.2.2.2.2.2.2.1 d.2.2.2.2.2.2.2.1 d.2.2.2.2.2.2.2.2.1 d.2.2.2.2.2.2.2.2.2.1 d.2.2.2.2.2.2.2.2.2.2.1 d.2.2.2.2.2.2.2.2.2.2.2.1 d.2.2.2.2.2.2.2.2.2.2.2.2.1 d.2.2.2.2.2.2.2.2.2.2.2.2.2.1 := by
  obtain ⟨_, _, _, _, _, _, _, _, _, _, _, _, _, _, _⟩ := d
  kernel_rfl
theorem R_giroref13_ahead_ok : EntryOK Proofs.Try.prog R_giroref13_ahead := fun k _ _ _ _ _ hy =>
  entry_sound (unpack := up_giroref13_ahead) (A := A_giroref13_ahead) (k := k) (pre := 1000) (na := 0) (E := E_giroref13_ahead) E_giroref13_ahead_ok E_giroref13_ahead_local mixed_orders (f := 62) (fn := Proofs.Try.f62) (by kernel_rfl) (body_loops (loopsOK_none (by kernel_rfl))) (enters (fn := Proofs.Try.f62) (by kernel_rfl) (by kernel_rfl) (by kernel_rfl)) (fun _ => rfl) (giroref13_ahead_ev k) hy
theorem R_giroref13_ahead_local : EntryLocal R_giroref13_ahead.2 := entry_local (S := fun k (d : AD as_giroref13_ahead) => giroref13_ahead k d.1 d.2.1 d.2.2.1 d.2.2.2.1 d.2.2.2.2.1 d.2.2.2.2.2.1 d.2.2.2.2.2.2.1 d.2.2.2.2.2.2.2.1 d.2.2.2.2.2.2.2.2.1 d.2.2.2.2.2.2.2.2.2.1 d.2.2.2.2.2.2.2.2.2.2.1 d.2.2.2.2.2.2.2.2.2.2.2.1 d.2.2.2.2.2.2.2.2.2.2.2.2.1 d.2.2.2.2.2.2.2.2.2.2.2.2.2.1)

/-! ### giro/giroref13.behind -/
noncomputable def E_giroref13_behind : Env := ⟨Proofs.Try.prog, fun _ => false, sumsOf [R_giroref13_ahead]⟩
def I_giroref13_behind_L0 : Spec := ⟨[(0, .c (.dat false (.pair (.int .i64) (.pair (.int .i64) (.pair (.int .i64) (.pair (.int .i64) (.pair (.int .i64) (.pair (.int .i64) (.int .i64))))))))), (3, .c (.lit (.ptr 1001000 0))), (5, .c (.int .i64))], [.box true [.int .i64, .int .i64, .int .i64, .int .i64, .int .i64, .int .i64, .int .i64]], []⟩
def O_giroref13_behind_L0 : List (Ex × Spec) := [(.exit 0, ⟨[(5, .c (.int .i64))], [], []⟩)]
def T_giroref13_behind_L0 : OutD O_giroref13_behind_L0 → Int := fun d => d.1.1.1
def e_giroref13_behind_L0 (base : Nat) (x : Int) (R : Type) (K : Ex → St → Option R) : Option R := K (.exit 0) (stOf base ⟨[(5, .c (.int .i64))], [], []⟩ (((x, ()), ()), ()))
def L_giroref13_behind_L0 : LoopSum := ⟨I_giroref13_behind_L0, O_giroref13_behind_L0, Int, fun k d => giroref13_behind_L0 k k d.1.1.1 d.1.2.2.1.1 d.2.1.1 d.2.1.2.1 d.2.1.2.2.1 d.2.1.2.2.2.1 d.2.1.2.2.2.2.1 d.2.1.2.2.2.2.2.1 d.2.1.2.2.2.2.2.2.1, e_giroref13_behind_L0⟩
def A_giroref13_behind : Notes := ⟨[], [(2, L_giroref13_behind_L0)]⟩
theorem E_giroref13_behind_ok : EnvOK E_giroref13_behind := ⟨eqOK_none, sumsOf_ok (List.forall_mem_cons.2 ⟨R_giroref13_ahead_ok, List.forall_mem_nil _⟩)⟩
theorem E_giroref13_behind_local : SumsLocal E_giroref13_behind.sums := sumsOf_local (List.forall_mem_cons.2 ⟨R_giroref13_ahead_local, List.forall_mem_nil _⟩)
theorem giroref13_behind_L0_step (k : Nat) (rec : List (Int × Int × Int × Int × Int × Int × Int) → Int → Int → Int → Int → Int → Int → Int → Int → Option (Int)) (d : I_giroref13_behind_L0.den) : giroref13_behind_L0b k rec d.1.1.1 d.1.2.2.1.1 d.2.1.1 d.2.1.2.1 d.2.1.2.2.1 d.2.1.2.2.2.1 d.2.1.2.2.2.2.1 d.2.1.2.2.2.2.2.1 d.2.1.2.2.2.2.2.2.1 = evC E_giroref13_behind A_giroref13_behind k 1000 0 21 (loopAt (bodyOf Proofs.Try.f56) 0) (stOf (1000 + loopBase) I_giroref13_behind_L0 d) (roundK 1000 I_giroref13_behind_L0 O_giroref13_behind_L0 T_giroref13_behind_L0 fun d => rec d.1.1.1 d.1.2.2.1.1 d.2.1.1 d.2.1.2.1 d.2.1.2.2.1 d.2.1.2.2.2.1 d.2.1.2.2.2.2.1 d.2.1.2.2.2.2.2.1 d.2.1.2.2.2.2.2.2.1) := by
  obtain ⟨⟨⟨_, _⟩, _, ⟨_, _⟩, _⟩, ⟨⟨_, _, _, _, _, _, _, _⟩, _⟩⟩ := d
  kernel_rfl
theorem giroref13_behind_L0_ok : LoopOK Proofs.Try.prog 1000 0 21 (loopAt (bodyOf Proofs.Try.f56) 0) L_giroref13_behind_L0 :=
  loop_sound (A := A_giroref13_behind) (inS := I_giroref13_behind_L0) (outs := O_giroref13_behind_L0) E_giroref13_behind_ok E_giroref13_behind_local mixed_orders (loopsOK_none (by kernel_rfl)) T_giroref13_behind_L0 e_giroref13_behind_L0 (fun _ _ _ => rfl) (fun k n d => giroref13_behind_L0 k n d.1.1.1 d.1.2.2.1.1 d.2.1.1 d.2.1.2.1 d.2.1.2.2.1 d.2.1.2.2.2.1 d.2.1.2.2.2.2.1 d.2.1.2.2.2.2.2.1 d.2.1.2.2.2.2.2.2.1) (fun _ _ => rfl) (fun k n d => giroref13_behind_L0_step k (giroref13_behind_L0 k n) d)
def as_giroref13_behind : List AS := [.c (.dat false (.pair (.int .i64) (.pair (.int .i64) (.pair (.int .i64) (.pair (.int .i64) (.pair (.int .i64) (.pair (.int .i64) (.int .i64)))))))), .agg [.int .i64, .int .i64, .int .i64, .int .i64, .int .i64, .int .i64, .int .i64]]
def rs_giroref13_behind : RS := .c (.int .i64)
def pk_giroref13_behind : Int → RL rs_giroref13_behind.cells := fun x => (x, ())
def up_giroref13_behind : RL rs_giroref13_behind.cells → Int := fun d => d.1
def R_giroref13_behind : Nat × Entry := (56, fun k nm args h => entry as_giroref13_behind rs_giroref13_behind (fun d => giroref13_behind k d.1 d.2.1 d.2.2.1 d.2.2.2.1 d.2.2.2.2.1 d.2.2.2.2.2.1 d.2.2.2.2.2.2.1 d.2.2.2.2.2.2.2.1) pk_giroref13_behind nm args h)
theorem giroref13_behind_ev (k : Nat) (d : AD as_giroref13_behind) : evF E_giroref13_behind A_giroref13_behind k 1000 0 Proofs.Try.f56 (absArgs as_giroref13_behind d).1 (absArgs as_giroref13_behind d).2 (outM rs_giroref13_behind up_giroref13_behind) = giroref13_behind k d.1 d.2.1 d.2.2.1 d.2.2.2.1 d.2.2.2.2.1 d.2.2.2.2.2.1 d.2.2.2.2.2.2.1 d.2.2.2.2.2.2.2.1 := by
  obtain ⟨_, _, _, _, _, _, _, _, _⟩ := d
  kernel_rfl
theorem R_giroref13_behind_ok : EntryOK Proofs.Try.prog R_giroref13_behind := fun k _ _ _ _ _ hy =>
  entry_sound (unpack := up_giroref13_behind) (A := A_giroref13_behind) (k := k) (pre := 1000) (na := 0) (E := E_giroref13_behind) E_giroref13_behind_ok E_giroref13_behind_local mixed_orders (f := 56) (fn := Proofs.Try.f56) (by kernel_rfl) (body_loops (loopsOK_of (n := 1) (by kernel_rfl) fun i hi => match i, hi with | 0, _ => ⟨L_giroref13_behind_L0, by kernel_rfl, giroref13_behind_L0_ok⟩ | i + 1, hi => absurd hi (by omega))) (enters (fn := Proofs.Try.f56) (by kernel_rfl) (by kernel_rfl) (by kernel_rfl)) (fun _ => rfl) (giroref13_behind_ev k) hy
theorem R_giroref13_behind_local : EntryLocal R_giroref13_behind.2 := entry_local (S := fun k (d : AD as_giroref13_behind) => giroref13_behind k d.1 d.2.1 d.2.2.1 d.2.2.2.1 d.2.2.2.2.1 d.2.2.2.2.2.1 d.2.2.2.2.2.2.1 d.2.2.2.2.2.2.2.1)

/-! ### giro/giroref13.insert -/
noncomputable def E_giroref13_insert : Env := ⟨Proofs.Try.prog, fun _ => false, sumsOf []⟩
def A_giroref13_insert : Notes := ⟨[], []⟩
theorem E_giroref13_insert_ok : EnvOK E_giroref13_insert := ⟨eqOK_none, sumsOf_ok (List.forall_mem_nil _)⟩
theorem E_giroref13_insert_local : SumsLocal E_giroref13_insert.sums := sumsOf_local (List.forall_mem_nil _)
def as_giroref13_insert : List AS := [.c (.dat false (.pair (.int .i64) (.pair (.int .i64) (.pair (.int .i64) (.pair (.int .i64) (.pair (.int .i64) (.pair (.int .i64) (.int .i64)))))))), .c (.int .i64), .agg [.int .i64, .int .i64, .int .i64, .int .i64, .int .i64, .int .i64, .int .i64]]
def rs_giroref13_insert : RS := .c (.own (.pair (.int .i64) (.pair (.int .i64) (.pair (.int .i64) (.pair (.int .i64) (.pair (.int .i64) (.pair (.int .i64) (.int .i64))))))))
def pk_giroref13_insert : List (Int × Int × Int × Int × Int × Int × Int) → RL rs_giroref13_insert.cells := fun x => (x, ())
def up_giroref13_insert : RL rs_giroref13_insert.cells → List (Int × Int × Int × Int × Int × Int × Int) := fun d => d.1
def R_giroref13_insert : Nat × Entry := (55, fun k nm args h => entry as_giroref13_insert rs_giroref13_insert (fun d => giroref13_insert k d.1 d.2.1 d.2.2.1 d.2.2.2.1 d.2.2.2.2.1 d.2.2.2.2.2.1 d.2.2.2.2.2.2.1 d.2.2.2.2.2.2.2.1 d.2.2.2.2.2.2.2.2.1) pk_giroref13_insert nm args h)
theorem giroref13_insert_ev (k : Nat) (d : AD as_giroref13_insert) : evF E_giroref13_insert A_giroref13_insert k 1000 0 Proofs.Try.f55 (absArgs as_giroref13_insert d).1 (absArgs as_giroref13_insert d).2 (outM rs_giroref13_insert up_giroref13_insert) = giroref13_insert k d.1 d.2.1 d.2.2.1 d.2.2.2.1 d.2.2.2.2.1 d.2.2.2.2.2.1 d.2.2.2.2.2.2.1 d.2.2.2.2.2.2.2.1 d.2.2.2.2.2.2.2.2.1 := by
  obtain ⟨_, _, _, _, _, _, _, _, _, _⟩ := d
  kernel_rfl
theorem R_giroref13_insert_ok : EntryOK Proofs.Try.prog R_giroref13_insert := fun k _ _ _ _ _ hy =>
  entry_sound (unpack := up_giroref13_insert) (A := A_giroref13_insert) (k := k) (pre := 1000) (na := 0) (E := E_giroref13_insert) E_giroref13_insert_ok E_giroref13_insert_local mixed_orders (f := 55) (fn := Proofs.Try.f55) (by kernel_rfl) (body_loops (loopsOK_none (by kernel_rfl))) (enters (fn := Proofs.Try.f55) (by kernel_rfl) (by kernel_rfl) (by kernel_rfl)) (fun _ => rfl) (giroref13_insert_ev k) hy
theorem R_giroref13_insert_local : EntryLocal R_giroref13_insert.2 := entry_local (S := fun k (d : AD as_giroref13_insert) => giroref13_insert k d.1 d.2.1 d.2.2.1 d.2.2.2.1 d.2.2.2.2.1 d.2.2.2.2.2.1 d.2.2.2.2.2.2.1 d.2.2.2.2.2.2.2.1 d.2.2.2.2.2.2.2.2.1)

/-! ### giro/giroref13.Put -/
noncomputable def E_giroref13_Put : Env := ⟨Proofs.Try.prog, fun _ => false, sumsOf [R_giroref13_Find, R_giroref13_behind, R_giroref13_insert]⟩
def A_giroref13_Put : Notes := ⟨[], []⟩
theorem E_giroref13_Put_ok : EnvOK E_giroref13_Put := ⟨eqOK_none, sumsOf_ok (List.forall_mem_cons.2 ⟨R_giroref13_Find_ok, List.forall_mem_cons.2 ⟨R_giroref13_behind_ok, List.forall_mem_cons.2 ⟨R_giroref13_insert_ok, List.forall_mem_nil _⟩⟩⟩)⟩
theorem E_giroref13_Put_local : SumsLocal E_giroref13_Put.sums := sumsOf_local (List.forall_mem_cons.2 ⟨R_giroref13_Find_local, List.forall_mem_cons.2 ⟨R_giroref13_behind_local, List.forall_mem_cons.2 ⟨R_giroref13_insert_local, List.forall_mem_nil _⟩⟩⟩)
def as_giroref13_Put : List AS := [.c (.dat true (.pair (.int .i64) (.pair (.int .i64) (.pair (.int .i64) (.pair (.int .i64) (.pair (.int .i64) (.pair (.int .i64) (.int .i64)))))))), .agg [.int .i64, .int .i64, .int .i64, .int .i64, .int .i64, .int .i64, .int .i64]]
def rs_giroref13_Put : RS := .tup [(false, [.fro (.pair (.int .i64) (.pair (.int .i64) (.pair (.int .i64) (.pair (.int .i64) (.pair (.int .i64) (.pair (.int .i64) (.int .i64)))))))]), (false, [.int .i64])]
def pk_giroref13_Put : (List (Int × Int × Int × Int × Int × Int × Int)) × Int → RL rs_giroref13_Put.cells := fun x => (x.1, x.2, ())
def up_giroref13_Put : RL rs_giroref13_Put.cells → (List (Int × Int × Int × Int × Int × Int × Int)) × Int := fun d => (d.1, d.2.1)
def R_giroref13_Put : Nat × Entry := (37, fun k nm args h => entry as_giroref13_Put rs_giroref13_Put (fun d => giroref13_Put k d.1 d.2.1 d.2.2.1 d.2.2.2.1 d.2.2.2.2.1 d.2.2.2.2.2.1 d.2.2.2.2.2.2.1 d.2.2.2.2.2.2.2.1) pk_giroref13_Put nm args h)
theorem giroref13_Put_ev (k : Nat) (d : AD as_giroref13_Put) : evF E_giroref13_Put A_giroref13_Put k 1000 0 Proofs.Try.f37 (absArgs as_giroref13_Put d).1 (absArgs as_giroref13_Put d).2 (outM rs_giroref13_Put up_giroref13_Put) = giroref13_Put k d.1 d.2.1 d.2.2.1 d.2.2.2.1 d.2.2.2.2.1 d.2.2.2.2.2.1 d.2.2.2.2.2.2.1 d.2.2.2.2.2.2.2.1 := by
  obtain ⟨_, _, _, _, _, _, _, _, _⟩ := d
  kernel_rfl
theorem R_giroref13_Put_ok : EntryOK Proofs.Try.prog R_giroref13_Put := fun k _ _ _ _ _ hy =>
  entry_sound (unpack := up_giroref13_Put) (A := A_giroref13_Put) (k := k) (pre := 1000) (na := 0) (E := E_giroref13_Put) E_giroref13_Put_ok E_giroref13_Put_local mixed_orders (f := 37) (fn := Proofs.Try.f37) (by kernel_rfl) (body_loops (loopsOK_none (by kernel_rfl))) (enters (fn := Proofs.Try.f37) (by kernel_rfl) (by kernel_rfl) (by kernel_rfl)) (fun _ => rfl) (giroref13_Put_ev k) hy
theorem R_giroref13_Put_local : EntryLocal R_giroref13_Put.2 := entry_local (S := fun k (d : AD as_giroref13_Put) => giroref13_Put k d.1 d.2.1 d.2.2.1 d.2.2.2.1 d.2.2.2.2.1 d.2.2.2.2.2.1 d.2.2.2.2.2.2.1 d.2.2.2.2.2.2.2.1)

/-! ### giro/girolaw16.rowed -/
noncomputable def E_girolaw16_rowed : Env := ⟨Proofs.Try.prog, fun _ => false, sumsOf [R_giroref13_Put]⟩
def I_girolaw16_rowed_L0 : Spec := ⟨[(0, .c (.dat false (.pair (.int .i64) (.pair (.int .i64) (.pair (.int .i64) (.pair (.int .i64) (.pair (.int .i64) (.pair (.int .i64) (.int .i64))))))))), (3, .c (.dat true (.pair (.int .i64) (.pair (.int .i64) (.pair (.int .i64) (.pair (.int .i64) (.pair (.int .i64) (.pair (.int .i64) (.int .i64))))))))), (4, .c (.int .i64))], [], []⟩
def O_girolaw16_rowed_L0 : List (Ex × Spec) := [(.exit 0, ⟨[(3, .c (.dat true (.pair (.int .i64) (.pair (.int .i64) (.pair (.int .i64) (.pair (.int .i64) (.pair (.int .i64) (.pair (.int .i64) (.int .i64)))))))))], [], []⟩)]
def T_girolaw16_rowed_L0 : OutD O_girolaw16_rowed_L0 → List (Int × Int × Int × Int × Int × Int × Int) := fun d => d.1.1.1
def e_girolaw16_rowed_L0 (base : Nat) (x : List (Int × Int × Int × Int × Int × Int × Int)) (R : Type) (K : Ex → St → Option R) : Option R := K (.exit 0) (stOf base ⟨[(3, .c (.dat true (.pair (.int .i64) (.pair (.int .i64) (.pair (.int .i64) (.pair (.int .i64) (.pair (.int .i64) (.pair (.int .i64) (.int .i64)))))))))], [], []⟩ (((x, ()), ()), ()))
def L_girolaw16_rowed_L0 : LoopSum := ⟨I_girolaw16_rowed_L0, O_girolaw16_rowed_L0, List (Int × Int × Int × Int × Int × Int × Int), fun k d => girolaw16_rowed_L0 k k d.1.1.1 d.1.2.1.1 d.1.2.2.1.1, e_girolaw16_rowed_L0⟩
def A_girolaw16_rowed : Notes := ⟨[], [(3, L_girolaw16_rowed_L0)]⟩
theorem E_girolaw16_rowed_ok : EnvOK E_girolaw16_rowed := ⟨eqOK_none, sumsOf_ok (List.forall_mem_cons.2 ⟨R_giroref13_Put_ok, List.forall_mem_nil _⟩)⟩
theorem E_girolaw16_rowed_local : SumsLocal E_girolaw16_rowed.sums := sumsOf_local (List.forall_mem_cons.2 ⟨R_giroref13_Put_local, List.forall_mem_nil _⟩)
theorem girolaw16_rowed_L0_step (k : Nat) (rec : List (Int × Int × Int × Int × Int × Int × Int) → List (Int × Int × Int × Int × Int × Int × Int) → Int → Option (List (Int × Int × Int × Int × Int × Int × Int))) (d : I_girolaw16_rowed_L0.den) : girolaw16_rowed_L0b k rec d.1.1.1 d.1.2.1.1 d.1.2.2.1.1 = evC E_girolaw16_rowed A_girolaw16_rowed k 1000 0 74 (loopAt (bodyOf Proofs.Try.f17) 0) (stOf (1000 + loopBase) I_girolaw16_rowed_L0 d) (roundK 1000 I_girolaw16_rowed_L0 O_girolaw16_rowed_L0 T_girolaw16_rowed_L0 fun d => rec d.1.1.1 d.1.2.1.1 d.1.2.2.1.1) := by
  obtain ⟨⟨⟨_, _⟩, ⟨_, _⟩, ⟨_, _⟩, _⟩, _⟩ := d
  kernel_rfl
theorem girolaw16_rowed_L0_ok : LoopOK Proofs.Try.prog 1000 0 74 (loopAt (bodyOf Proofs.Try.f17) 0) L_girolaw16_rowed_L0 :=
  loop_sound (A := A_girolaw16_rowed) (inS := I_girolaw16_rowed_L0) (outs := O_girolaw16_rowed_L0) E_girolaw16_rowed_ok E_girolaw16_rowed_local mixed_orders (loopsOK_none (by kernel_rfl)) T_girolaw16_rowed_L0 e_girolaw16_rowed_L0 (fun _ _ _ => rfl) (fun k n d => girolaw16_rowed_L0 k n d.1.1.1 d.1.2.1.1 d.1.2.2.1.1) (fun _ _ => rfl) (fun k n d => girolaw16_rowed_L0_step k (girolaw16_rowed_L0 k n) d)
def as_girolaw16_rowed : List AS := [.c (.dat false (.pair (.int .i64) (.pair (.int .i64) (.pair (.int .i64) (.pair (.int .i64) (.pair (.int .i64) (.pair (.int .i64) (.int .i64))))))))]
def rs_girolaw16_rowed : RS := .c (.fro (.pair (.int .i64) (.pair (.int .i64) (.pair (.int .i64) (.pair (.int .i64) (.pair (.int .i64) (.pair (.int .i64) (.int .i64))))))))
def pk_girolaw16_rowed : List (Int × Int × Int × Int × Int × Int × Int) → RL rs_girolaw16_rowed.cells := fun x => (x, ())
def up_girolaw16_rowed : RL rs_girolaw16_rowed.cells → List (Int × Int × Int × Int × Int × Int × Int) := fun d => d.1
def R_girolaw16_rowed : Nat × Entry := (17, fun k nm args h => entry as_girolaw16_rowed rs_girolaw16_rowed (fun d => girolaw16_rowed k d.1) pk_girolaw16_rowed nm args h)
theorem girolaw16_rowed_ev (k : Nat) (d : AD as_girolaw16_rowed) : evF E_girolaw16_rowed A_girolaw16_rowed k 1000 0 Proofs.Try.f17 (absArgs as_girolaw16_rowed d).1 (absArgs as_girolaw16_rowed d).2 (outM rs_girolaw16_rowed up_girolaw16_rowed) = girolaw16_rowed k d.1 := by
  obtain ⟨_, _⟩ := d
  kernel_rfl
theorem R_girolaw16_rowed_ok : EntryOK Proofs.Try.prog R_girolaw16_rowed := fun k _ _ _ _ _ hy =>
  entry_sound (unpack := up_girolaw16_rowed) (A := A_girolaw16_rowed) (k := k) (pre := 1000) (na := 0) (E := E_girolaw16_rowed) E_girolaw16_rowed_ok E_girolaw16_rowed_local mixed_orders (f := 17) (fn := Proofs.Try.f17) (by kernel_rfl) (body_loops (loopsOK_of (n := 1) (by kernel_rfl) fun i hi => match i, hi with | 0, _ => ⟨L_girolaw16_rowed_L0, by kernel_rfl, girolaw16_rowed_L0_ok⟩ | i + 1, hi => absurd hi (by omega))) (enters (fn := Proofs.Try.f17) (by kernel_rfl) (by kernel_rfl) (by kernel_rfl)) (fun _ => rfl) (girolaw16_rowed_ev k) hy
theorem R_girolaw16_rowed_local : EntryLocal R_girolaw16_rowed.2 := entry_local (S := fun k (d : AD as_girolaw16_rowed) => girolaw16_rowed k d.1)

/-! ### giro/giroref15.May -/
noncomputable def E_giroref15_May : Env := ⟨Proofs.Try.prog, fun _ => false, sumsOf []⟩
def A_giroref15_May : Notes := ⟨[], []⟩
theorem E_giroref15_May_ok : EnvOK E_giroref15_May := ⟨eqOK_none, sumsOf_ok (List.forall_mem_nil _)⟩
theorem E_giroref15_May_local : SumsLocal E_giroref15_May.sums := sumsOf_local (List.forall_mem_nil _)
def as_giroref15_May : List AS := [.agg [.dat false (.pair (.int .i64) (.pair (.int .i64) (.int .i64))), .dat false (.sl (.int .i64)), .dat false (.int .i64), .dat false (.sl (.int .i64))], .agg [.int .i64, .int .i64, .int .i64, .int .i64, .int .i64, .int .i64, .int .i64]]
def rs_giroref15_May : RS := .c (.bool)
def pk_giroref15_May : Bool → RL rs_giroref15_May.cells := fun x => (x, ())
def up_giroref15_May : RL rs_giroref15_May.cells → Bool := fun d => d.1
def R_giroref15_May : Nat × Entry := (51, fun k nm args h => entry as_giroref15_May rs_giroref15_May (fun d => giroref15_May k d.1 d.2.1 d.2.2.1 d.2.2.2.1 d.2.2.2.2.1 d.2.2.2.2.2.1 d.2.2.2.2.2.2.1 d.2.2.2.2.2.2.2.1 d.2.2.2.2.2.2.2.2.1 d.2.2.2.2.2.2.2.2.2.1 d.2.2.2.2.2.2.2.2.2.2.1) pk_giroref15_May nm args h)
theorem giroref15_May_ev (k : Nat) (d : AD as_giroref15_May) : evF E_giroref15_May A_giroref15_May k 1000 0 Proofs.Try.f51 (absArgs as_giroref15_May d).1 (absArgs as_giroref15_May d).2 (outM rs_giroref15_May up_giroref15_May) = giroref15_May k d.1 d.2.1 d.2.2.1 d.2.2.2.1 d.2.2.2.2.1 d.2.2.2.2.2.1 d.2.2.2.2.2.2.1 d.2.2.2.2.2.2.2.1 d.2.2.2.2.2.2.2.2.1 d.2.2.2.2.2.2.2.2.2.1 d.2.2.2.2.2.2.2.2.2.2.1 := by
  obtain ⟨_, _, _, _, _, _, _, _, _, _, _, _⟩ := d
  kernel_rfl
theorem R_giroref15_May_ok : EntryOK Proofs.Try.prog R_giroref15_May := fun k _ _ _ _ _ hy =>
  entry_sound (unpack := up_giroref15_May) (A := A_giroref15_May) (k := k) (pre := 1000) (na := 0) (E := E_giroref15_May) E_giroref15_May_ok E_giroref15_May_local mixed_orders (f := 51) (fn := Proofs.Try.f51) (by kernel_rfl) (body_loops (loopsOK_none (by kernel_rfl))) (enters (fn := Proofs.Try.f51) (by kernel_rfl) (by kernel_rfl) (by kernel_rfl)) (fun _ => rfl) (giroref15_May_ev k) hy
theorem R_giroref15_May_local : EntryLocal R_giroref15_May.2 := entry_local (S := fun k (d : AD as_giroref15_May) => giroref15_May k d.1 d.2.1 d.2.2.1 d.2.2.2.1 d.2.2.2.2.1 d.2.2.2.2.2.1 d.2.2.2.2.2.2.1 d.2.2.2.2.2.2.2.1 d.2.2.2.2.2.2.2.2.1 d.2.2.2.2.2.2.2.2.2.1 d.2.2.2.2.2.2.2.2.2.2.1)

/-! ### giro/giroref15.All -/
noncomputable def E_giroref15_All : Env := ⟨Proofs.Try.prog, fun _ => false, sumsOf [R_giroref15_May]⟩
def I_giroref15_All_L0 : Spec := ⟨[(1, .c (.dat false (.pair (.int .i64) (.pair (.int .i64) (.pair (.int .i64) (.pair (.int .i64) (.pair (.int .i64) (.pair (.int .i64) (.int .i64))))))))), (2, .c (.lit (.ptr 1001000 0))), (5, .c (.int .i64))], [.box true [.dat false (.pair (.int .i64) (.pair (.int .i64) (.int .i64))), .dat false (.sl (.int .i64)), .dat false (.int .i64), .dat false (.sl (.int .i64))]], []⟩
def O_giroref15_All_L0 : List (Ex × Spec) := [(.exit 0, ⟨[(1, .c (.dat false (.pair (.int .i64) (.pair (.int .i64) (.pair (.int .i64) (.pair (.int .i64) (.pair (.int .i64) (.pair (.int .i64) (.int .i64)))))))))], [], []⟩), (.ret, ⟨[(4, .c (.bool))], [], []⟩)]
def T_giroref15_All_L0 : OutD O_giroref15_All_L0 → (List (Int × Int × Int × Int × Int × Int × Int)) ⊕ Bool
 | .inl d => .inl d.1.1.1
 | .inr d => .inr d.1.1.1
def e_giroref15_All_L0 (base : Nat) (x : (List (Int × Int × Int × Int × Int × Int × Int)) ⊕ Bool) (R : Type) (K : Ex → St → Option R) : Option R := match x with
 | .inl x => K (.exit 0) (stOf base ⟨[(1, .c (.dat false (.pair (.int .i64) (.pair (.int .i64) (.pair (.int .i64) (.pair (.int .i64) (.pair (.int .i64) (.pair (.int .i64) (.int .i64)))))))))], [], []⟩ (((x, ()), ()), ()))
 | .inr x => K .ret (stOf base ⟨[(4, .c (.bool))], [], []⟩ (((x, ()), ()), ()))
def L_giroref15_All_L0 : LoopSum := ⟨I_giroref15_All_L0, O_giroref15_All_L0, (List (Int × Int × Int × Int × Int × Int × Int)) ⊕ Bool, fun k d => giroref15_All_L0 k k d.1.1.1 d.1.2.2.1.1 d.2.1.1 d.2.1.2.1 d.2.1.2.2.1 d.2.1.2.2.2.1, e_giroref15_All_L0⟩
def A_giroref15_All : Notes := ⟨[], [(2, L_giroref15_All_L0)]⟩
theorem E_giroref15_All_ok : EnvOK E_giroref15_All := ⟨eqOK_none, sumsOf_ok (List.forall_mem_cons.2 ⟨R_giroref15_May_ok, List.forall_mem_nil _⟩)⟩
theorem E_giroref15_All_local : SumsLocal E_giroref15_All.sums := sumsOf_local (List.forall_mem_cons.2 ⟨R_giroref15_May_local, List.forall_mem_nil _⟩)
theorem giroref15_All_L0_step (k : Nat) (rec : List (Int × Int × Int × Int × Int × Int × Int) → Int → List (Int × Int × Int) → List (List Int) → List Int → List (List Int) → Option ((List (Int × Int × Int × Int × Int × Int × Int)) ⊕ Bool)) (d : I_giroref15_All_L0.den) : giroref15_All_L0b k rec d.1.1.1 d.1.2.2.1.1 d.2.1.1 d.2.1.2.1 d.2.1.2.2.1 d.2.1.2.2.2.1 = evC E_giroref15_All A_giroref15_All k 1000 0 22 (loopAt (bodyOf Proofs.Try.f30) 0) (stOf (1000 + loopBase) I_giroref15_All_L0 d) (roundK 1000 I_giroref15_All_L0 O_giroref15_All_L0 T_giroref15_All_L0 fun d => rec d.1.1.1 d.1.2.2.1.1 d.2.1.1 d.2.1.2.1 d.2.1.2.2.1 d.2.1.2.2.2.1) := by
  obtain ⟨⟨⟨_, _⟩, _, ⟨_, _⟩, _⟩, ⟨⟨_, _, _, _, _⟩, _⟩⟩ := d
  kernel_rfl
theorem giroref15_All_L0_ok : LoopOK Proofs.Try.prog 1000 0 22 (loopAt (bodyOf Proofs.Try.f30) 0) L_giroref15_All_L0 :=
  loop_sound (A := A_giroref15_All) (inS := I_giroref15_All_L0) (outs := O_giroref15_All_L0) E_giroref15_All_ok E_giroref15_All_local mixed_orders (loopsOK_none (by kernel_rfl)) T_giroref15_All_L0 e_giroref15_All_L0 (by intro o R K; rcases o with o | o <;> rfl) (fun k n d => giroref15_All_L0 k n d.1.1.1 d.1.2.2.1.1 d.2.1.1 d.2.1.2.1 d.2.1.2.2.1 d.2.1.2.2.2.1) (fun _ _ => rfl) (fun k n d => giroref15_All_L0_step k (giroref15_All_L0 k n) d)
def as_giroref15_All : List AS := [.agg [.dat false (.pair (.int .i64) (.pair (.int .i64) (.int .i64))), .dat false (.sl (.int .i64)), .dat false (.int .i64), .dat false (.sl (.int .i64))], .c (.dat false (.pair (.int .i64) (.pair (.int .i64) (.pair (.int .i64) (.pair (.int .i64) (.pair (.int .i64) (.pair (.int .i64) (.int .i64))))))))]
def rs_giroref15_All : RS := .c (.bool)
def pk_giroref15_All : Bool → RL rs_giroref15_All.cells := fun x => (x, ())
def up_giroref15_All : RL rs_giroref15_All.cells → Bool := fun d => d.1
def R_giroref15_All : Nat × Entry := (30, fun k nm args h => entry as_giroref15_All rs_giroref15_All (fun d => giroref15_All k d.1 d.2.1 d.2.2.1 d.2.2.2.1 d.2.2.2.2.1) pk_giroref15_All nm args h)
theorem giroref15_All_ev (k : Nat) (d : AD as_giroref15_All) : evF E_giroref15_All A_giroref15_All k 1000 0 Proofs.Try.f30 (absArgs as_giroref15_All d).1 (absArgs as_giroref15_All d).2 (outM rs_giroref15_All up_giroref15_All) = giroref15_All k d.1 d.2.1 d.2.2.1 d.2.2.2.1 d.2.2.2.2.1 := by
  obtain ⟨_, _, _, _, _, _⟩ := d
  kernel_rfl
theorem R_giroref15_All_ok : EntryOK Proofs.Try.prog R_giroref15_All := fun k _ _ _ _ _ hy =>
  entry_sound (unpack := up_giroref15_All) (A := A_giroref15_All) (k := k) (pre := 1000) (na := 0) (E := E_giroref15_All) E_giroref15_All_ok E_giroref15_All_local mixed_orders (f := 30) (fn := Proofs.Try.f30) (by kernel_rfl) (body_loops (loopsOK_of (n := 1) (by kernel_rfl) fun i hi => match i, hi with | 0, _ => ⟨L_giroref15_All_L0, by kernel_rfl, giroref15_All_L0_ok⟩ | i + 1, hi => absurd hi (by omega))) (enters (fn := Proofs.Try.f30) (by kernel_rfl) (by kernel_rfl) (by kernel_rfl)) (fun _ => rfl) (giroref15_All_ev k) hy
theorem R_giroref15_All_local : EntryLocal R_giroref15_All.2 := entry_local (S := fun k (d : AD as_giroref15_All) => giroref15_All k d.1 d.2.1 d.2.2.1 d.2.2.2.1 d.2.2.2.2.1)

/-! ### giro/giroref15.classed -/
noncomputable def E_giroref15_classed : Env := ⟨Proofs.Try.prog, fun _ => false, sumsOf []⟩
def I_giroref15_classed_L0 : Spec := ⟨[(0, .c (.dat false (.pair (.int .i64) (.pair (.int .i64) (.pair (.int .i64) (.pair (.int .i64) (.pair (.int .i64) (.pair (.int .i64) (.int .i64))))))))), (1, .c (.int .i64)), (6, .c (.int .i64)), (7, .c (.int .i64)), (8, .c (.int .i64))], [], []⟩
def O_giroref15_classed_L0 : List (Ex × Spec) := [(.exit 0, ⟨[(6, .c (.int .i64)), (7, .c (.int .i64))], [], []⟩)]
def T_giroref15_classed_L0 : OutD O_giroref15_classed_L0 → Int × Int := fun d => (d.1.1.1, d.1.2.1.1)
def e_giroref15_classed_L0 (base : Nat) (x : Int × Int) (R : Type) (K : Ex → St → Option R) : Option R := K (.exit 0) (stOf base ⟨[(6, .c (.int .i64)), (7, .c (.int .i64))], [], []⟩ (((x.1, ()), (x.2, ()), ()), ()))
def L_giroref15_classed_L0 : LoopSum := ⟨I_giroref15_classed_L0, O_giroref15_classed_L0, Int × Int, fun k d => giroref15_classed_L0 k k d.1.1.1 d.1.2.1.1 d.1.2.2.1.1 d.1.2.2.2.1.1 d.1.2.2.2.2.1.1, e_giroref15_classed_L0⟩
def A_giroref15_classed : Notes := ⟨[], [(3, L_giroref15_classed_L0)]⟩
theorem E_giroref15_classed_ok : EnvOK E_giroref15_classed := ⟨eqOK_none, sumsOf_ok (List.forall_mem_nil _)⟩
theorem E_giroref15_classed_local : SumsLocal E_giroref15_classed.sums := sumsOf_local (List.forall_mem_nil _)
theorem giroref15_classed_L0_step (k : Nat) (rec : List (Int × Int × Int × Int × Int × Int × Int) → Int → Int → Int → Int → Option (Int × Int)) (d : I_giroref15_classed_L0.den) : giroref15_classed_L0b k rec d.1.1.1 d.1.2.1.1 d.1.2.2.1.1 d.1.2.2.2.1.1 d.1.2.2.2.2.1.1 = evC E_giroref15_classed A_giroref15_classed k 1000 0 46 (loopAt (bodyOf Proofs.Try.f52) 0) (stOf (1000 + loopBase) I_giroref15_classed_L0 d) (roundK 1000 I_giroref15_classed_L0 O_giroref15_classed_L0 T_giroref15_classed_L0 fun d => rec d.1.1.1 d.1.2.1.1 d.1.2.2.1.1 d.1.2.2.2.1.1 d.1.2.2.2.2.1.1) := by
  obtain ⟨⟨⟨_, _⟩, ⟨_, _⟩, ⟨_, _⟩, ⟨_, _⟩, ⟨_, _⟩, _⟩, _⟩ := d
  kernel_rfl
theorem giroref15_classed_L0_ok : LoopOK Proofs.Try.prog 1000 0 46 (loopAt (bodyOf Proofs.Try.f52) 0) L_giroref15_classed_L0 :=
  loop_sound (A := A_giroref15_classed) (inS := I_giroref15_classed_L0) (outs := O_giroref15_classed_L0) E_giroref15_classed_ok E_giroref15_classed_local mixed_orders (loopsOK_none (by kernel_rfl)) T_giroref15_classed_L0 e_giroref15_classed_L0 (fun _ _ _ => rfl) (fun k n d => giroref15_classed_L0 k n d.1.1.1 d.1.2.1.1 d.1.2.2.1.1 d.1.2.2.2.1.1 d.1.2.2.2.2.1.1) (fun _ _ => rfl) (fun k n d => giroref15_classed_L0_step k (giroref15_classed_L0 k n) d)
def as_giroref15_classed : List AS := [.c (.dat false (.pair (.int .i64) (.pair (.int .i64) (.pair (.int .i64) (.pair (.int .i64) (.pair (.int .i64) (.pair (.int .i64) (.int .i64)))))))), .c (.int .i64)]
def rs_giroref15_classed : RS := .tup [(false, [.int .i64]), (false, [.int .i64])]
def pk_giroref15_classed : Int × Int → RL rs_giroref15_classed.cells := fun x => (x.1, x.2, ())
def up_giroref15_classed : RL rs_giroref15_classed.cells → Int × Int := fun d => (d.1, d.2.1)
def R_giroref15_classed : Nat × Entry := (52, fun k nm args h => entry as_giroref15_classed rs_giroref15_classed (fun d => giroref15_classed k d.1 d.2.1) pk_giroref15_classed nm args h)
theorem giroref15_classed_ev (k : Nat) (d : AD as_giroref15_classed) : evF E_giroref15_classed A_giroref15_classed k 1000 0 Proofs.Try.f52 (absArgs as_giroref15_classed d).1 (absArgs as_giroref15_classed d).2 (outM rs_giroref15_classed up_giroref15_classed) = giroref15_classed k d.1 d.2.1 := by
  obtain ⟨_, _, _⟩ := d
  kernel_rfl
theorem R_giroref15_classed_ok : EntryOK Proofs.Try.prog R_giroref15_classed := fun k _ _ _ _ _ hy =>
  entry_sound (unpack := up_giroref15_classed) (A := A_giroref15_classed) (k := k) (pre := 1000) (na := 0) (E := E_giroref15_classed) E_giroref15_classed_ok E_giroref15_classed_local mixed_orders (f := 52) (fn := Proofs.Try.f52) (by kernel_rfl) (body_loops (loopsOK_of (n := 1) (by kernel_rfl) fun i hi => match i, hi with | 0, _ => ⟨L_giroref15_classed_L0, by kernel_rfl, giroref15_classed_L0_ok⟩ | i + 1, hi => absurd hi (by omega))) (enters (fn := Proofs.Try.f52) (by kernel_rfl) (by kernel_rfl) (by kernel_rfl)) (fun _ => rfl) (giroref15_classed_ev k) hy
theorem R_giroref15_classed_local : EntryLocal R_giroref15_classed.2 := entry_local (S := fun k (d : AD as_giroref15_classed) => giroref15_classed k d.1 d.2.1)

/-! ### giro/giroref10.Net -/
noncomputable def E_giroref10_Net : Env := ⟨Proofs.Try.prog, fun _ => false, sumsOf []⟩
def I_giroref10_Net_L0 : Spec := ⟨[(1, .c (.int .i64)), (2, .c (.lit (.ptr 1001000 0))), (5, .c (.int .i64)), (6, .c (.int .i64))], [.box true [.dat false (.pair (.int .i64) (.pair (.int .i64) (.int .i64))), .dat false (.sl (.int .i64)), .dat false (.int .i64), .dat false (.sl (.int .i64))]], []⟩
def O_giroref10_Net_L0 : List (Ex × Spec) := [(.exit 0, ⟨[(5, .c (.int .i64))], [], []⟩)]
def T_giroref10_Net_L0 : OutD O_giroref10_Net_L0 → Int := fun d => d.1.1.1
def e_giroref10_Net_L0 (base : Nat) (x : Int) (R : Type) (K : Ex → St → Option R) : Option R := K (.exit 0) (stOf base ⟨[(5, .c (.int .i64))], [], []⟩ (((x, ()), ()), ()))
def L_giroref10_Net_L0 : LoopSum := ⟨I_giroref10_Net_L0, O_giroref10_Net_L0, Int, fun k d => giroref10_Net_L0 k k d.1.1.1 d.1.2.2.1.1 d.1.2.2.2.1.1 d.2.1.1 d.2.1.2.1 d.2.1.2.2.1 d.2.1.2.2.2.1, e_giroref10_Net_L0⟩
def A_giroref10_Net : Notes := ⟨[], [(3, L_giroref10_Net_L0)]⟩
theorem E_giroref10_Net_ok : EnvOK E_giroref10_Net := ⟨eqOK_none, sumsOf_ok (List.forall_mem_nil _)⟩
theorem E_giroref10_Net_local : SumsLocal E_giroref10_Net.sums := sumsOf_local (List.forall_mem_nil _)
theorem giroref10_Net_L0_step (k : Nat) (rec : Int → Int → Int → List (Int × Int × Int) → List (List Int) → List Int → List (List Int) → Option (Int)) (d : I_giroref10_Net_L0.den) : giroref10_Net_L0b k rec d.1.1.1 d.1.2.2.1.1 d.1.2.2.2.1.1 d.2.1.1 d.2.1.2.1 d.2.1.2.2.1 d.2.1.2.2.2.1 = evC E_giroref10_Net A_giroref10_Net k 1000 0 28 (loopAt (bodyOf Proofs.Try.f19) 0) (stOf (1000 + loopBase) I_giroref10_Net_L0 d) (roundK 1000 I_giroref10_Net_L0 O_giroref10_Net_L0 T_giroref10_Net_L0 fun d => rec d.1.1.1 d.1.2.2.1.1 d.1.2.2.2.1.1 d.2.1.1 d.2.1.2.1 d.2.1.2.2.1 d.2.1.2.2.2.1) := by
  obtain ⟨⟨⟨_, _⟩, _, ⟨_, _⟩, ⟨_, _⟩, _⟩, ⟨⟨_, _, _, _, _⟩, _⟩⟩ := d
  kernel_rfl
theorem giroref10_Net_L0_ok : LoopOK Proofs.Try.prog 1000 0 28 (loopAt (bodyOf Proofs.Try.f19) 0) L_giroref10_Net_L0 :=
  loop_sound (A := A_giroref10_Net) (inS := I_giroref10_Net_L0) (outs := O_giroref10_Net_L0) E_giroref10_Net_ok E_giroref10_Net_local mixed_orders (loopsOK_none (by kernel_rfl)) T_giroref10_Net_L0 e_giroref10_Net_L0 (fun _ _ _ => rfl) (fun k n d => giroref10_Net_L0 k n d.1.1.1 d.1.2.2.1.1 d.1.2.2.2.1.1 d.2.1.1 d.2.1.2.1 d.2.1.2.2.1 d.2.1.2.2.2.1) (fun _ _ => rfl) (fun k n d => giroref10_Net_L0_step k (giroref10_Net_L0 k n) d)
def as_giroref10_Net : List AS := [.agg [.dat false (.pair (.int .i64) (.pair (.int .i64) (.int .i64))), .dat false (.sl (.int .i64)), .dat false (.int .i64), .dat false (.sl (.int .i64))], .c (.int .i64)]
def rs_giroref10_Net : RS := .c (.int .i64)
def pk_giroref10_Net : Int → RL rs_giroref10_Net.cells := fun x => (x, ())
def up_giroref10_Net : RL rs_giroref10_Net.cells → Int := fun d => d.1
def R_giroref10_Net : Nat × Entry := (19, fun k nm args h => entry as_giroref10_Net rs_giroref10_Net (fun d => giroref10_Net k d.1 d.2.1 d.2.2.1 d.2.2.2.1 d.2.2.2.2.1) pk_giroref10_Net nm args h)
theorem giroref10_Net_ev (k : Nat) (d : AD as_giroref10_Net) : evF E_giroref10_Net A_giroref10_Net k 1000 0 Proofs.Try.f19 (absArgs as_giroref10_Net d).1 (absArgs as_giroref10_Net d).2 (outM rs_giroref10_Net up_giroref10_Net) = giroref10_Net k d.1 d.2.1 d.2.2.1 d.2.2.2.1 d.2.2.2.2.1 := by
  obtain ⟨_, _, _, _, _, _⟩ := d
  kernel_rfl
theorem R_giroref10_Net_ok : EntryOK Proofs.Try.prog R_giroref10_Net := fun k _ _ _ _ _ hy =>
  entry_sound (unpack := up_giroref10_Net) (A := A_giroref10_Net) (k := k) (pre := 1000) (na := 0) (E := E_giroref10_Net) E_giroref10_Net_ok E_giroref10_Net_local mixed_orders (f := 19) (fn := Proofs.Try.f19) (by kernel_rfl) (body_loops (loopsOK_of (n := 1) (by kernel_rfl) fun i hi => match i, hi with | 0, _ => ⟨L_giroref10_Net_L0, by kernel_rfl, giroref10_Net_L0_ok⟩ | i + 1, hi => absurd hi (by omega))) (enters (fn := Proofs.Try.f19) (by kernel_rfl) (by kernel_rfl) (by kernel_rfl)) (fun _ => rfl) (giroref10_Net_ev k) hy
theorem R_giroref10_Net_local : EntryLocal R_giroref10_Net.2 := entry_local (S := fun k (d : AD as_giroref10_Net) => giroref10_Net k d.1 d.2.1 d.2.2.1 d.2.2.2.1 d.2.2.2.2.1)

/-! ### giro/giroref15.sent -/
noncomputable def E_giroref15_sent : Env := ⟨Proofs.Try.prog, fun _ => false, sumsOf []⟩
def I_giroref15_sent_L0 : Spec := ⟨[(0, .c (.dat false (.pair (.int .i64) (.pair (.int .i64) (.pair (.int .i64) (.pair (.int .i64) (.pair (.int .i64) (.pair (.int .i64) (.int .i64))))))))), (1, .c (.int .i64)), (2, .c (.int .i64)), (7, .c (.int .i64)), (8, .c (.int .i64))], [], []⟩
def O_giroref15_sent_L0 : List (Ex × Spec) := [(.exit 0, ⟨[(7, .c (.int .i64))], [], []⟩)]
def T_giroref15_sent_L0 : OutD O_giroref15_sent_L0 → Int := fun d => d.1.1.1
def e_giroref15_sent_L0 (base : Nat) (x : Int) (R : Type) (K : Ex → St → Option R) : Option R := K (.exit 0) (stOf base ⟨[(7, .c (.int .i64))], [], []⟩ (((x, ()), ()), ()))
def L_giroref15_sent_L0 : LoopSum := ⟨I_giroref15_sent_L0, O_giroref15_sent_L0, Int, fun k d => giroref15_sent_L0 k k d.1.1.1 d.1.2.1.1 d.1.2.2.1.1 d.1.2.2.2.1.1 d.1.2.2.2.2.1.1, e_giroref15_sent_L0⟩
def A_giroref15_sent : Notes := ⟨[], [(3, L_giroref15_sent_L0)]⟩
theorem E_giroref15_sent_ok : EnvOK E_giroref15_sent := ⟨eqOK_none, sumsOf_ok (List.forall_mem_nil _)⟩
theorem E_giroref15_sent_local : SumsLocal E_giroref15_sent.sums := sumsOf_local (List.forall_mem_nil _)
theorem giroref15_sent_L0_step (k : Nat) (rec : List (Int × Int × Int × Int × Int × Int × Int) → Int → Int → Int → Int → Option (Int)) (d : I_giroref15_sent_L0.den) : giroref15_sent_L0b k rec d.1.1.1 d.1.2.1.1 d.1.2.2.1.1 d.1.2.2.2.1.1 d.1.2.2.2.2.1.1 = evC E_giroref15_sent A_giroref15_sent k 1000 0 39 (loopAt (bodyOf Proofs.Try.f53) 0) (stOf (1000 + loopBase) I_giroref15_sent_L0 d) (roundK 1000 I_giroref15_sent_L0 O_giroref15_sent_L0 T_giroref15_sent_L0 fun d => rec d.1.1.1 d.1.2.1.1 d.1.2.2.1.1 d.1.2.2.2.1.1 d.1.2.2.2.2.1.1) := by
  obtain ⟨⟨⟨_, _⟩, ⟨_, _⟩, ⟨_, _⟩, ⟨_, _⟩, ⟨_, _⟩, _⟩, _⟩ := d
  kernel_rfl
theorem giroref15_sent_L0_ok : LoopOK Proofs.Try.prog 1000 0 39 (loopAt (bodyOf Proofs.Try.f53) 0) L_giroref15_sent_L0 :=
  loop_sound (A := A_giroref15_sent) (inS := I_giroref15_sent_L0) (outs := O_giroref15_sent_L0) E_giroref15_sent_ok E_giroref15_sent_local mixed_orders (loopsOK_none (by kernel_rfl)) T_giroref15_sent_L0 e_giroref15_sent_L0 (fun _ _ _ => rfl) (fun k n d => giroref15_sent_L0 k n d.1.1.1 d.1.2.1.1 d.1.2.2.1.1 d.1.2.2.2.1.1 d.1.2.2.2.2.1.1) (fun _ _ => rfl) (fun k n d => giroref15_sent_L0_step k (giroref15_sent_L0 k n) d)
def as_giroref15_sent : List AS := [.c (.dat false (.pair (.int .i64) (.pair (.int .i64) (.pair (.int .i64) (.pair (.int .i64) (.pair (.int .i64) (.pair (.int .i64) (.int .i64)))))))), .c (.int .i64), .c (.int .i64)]
def rs_giroref15_sent : RS := .c (.int .i64)
def pk_giroref15_sent : Int → RL rs_giroref15_sent.cells := fun x => (x, ())
def up_giroref15_sent : RL rs_giroref15_sent.cells → Int := fun d => d.1
def R_giroref15_sent : Nat × Entry := (53, fun k nm args h => entry as_giroref15_sent rs_giroref15_sent (fun d => giroref15_sent k d.1 d.2.1 d.2.2.1) pk_giroref15_sent nm args h)
theorem giroref15_sent_ev (k : Nat) (d : AD as_giroref15_sent) : evF E_giroref15_sent A_giroref15_sent k 1000 0 Proofs.Try.f53 (absArgs as_giroref15_sent d).1 (absArgs as_giroref15_sent d).2 (outM rs_giroref15_sent up_giroref15_sent) = giroref15_sent k d.1 d.2.1 d.2.2.1 := by
  obtain ⟨_, _, _, _⟩ := d
  kernel_rfl
theorem R_giroref15_sent_ok : EntryOK Proofs.Try.prog R_giroref15_sent := fun k _ _ _ _ _ hy =>
  entry_sound (unpack := up_giroref15_sent) (A := A_giroref15_sent) (k := k) (pre := 1000) (na := 0) (E := E_giroref15_sent) E_giroref15_sent_ok E_giroref15_sent_local mixed_orders (f := 53) (fn := Proofs.Try.f53) (by kernel_rfl) (body_loops (loopsOK_of (n := 1) (by kernel_rfl) fun i hi => match i, hi with | 0, _ => ⟨L_giroref15_sent_L0, by kernel_rfl, giroref15_sent_L0_ok⟩ | i + 1, hi => absurd hi (by omega))) (enters (fn := Proofs.Try.f53) (by kernel_rfl) (by kernel_rfl) (by kernel_rfl)) (fun _ => rfl) (giroref15_sent_ev k) hy
theorem R_giroref15_sent_local : EntryLocal R_giroref15_sent.2 := entry_local (S := fun k (d : AD as_giroref15_sent) => giroref15_sent k d.1 d.2.1 d.2.2.1)

/-! ### giro/giroref9.Kept -/
noncomputable def E_giroref9_Kept : Env := ⟨Proofs.Try.prog, fun _ => false, sumsOf []⟩
def A_giroref9_Kept : Notes := ⟨[], []⟩
theorem E_giroref9_Kept_ok : EnvOK E_giroref9_Kept := ⟨eqOK_none, sumsOf_ok (List.forall_mem_nil _)⟩
theorem E_giroref9_Kept_local : SumsLocal E_giroref9_Kept.sums := sumsOf_local (List.forall_mem_nil _)
def as_giroref9_Kept : List AS := [.agg [.int .i64, .int .i64, .int .i64], .c (.int .i64)]
def rs_giroref9_Kept : RS := .c (.int .i64)
def pk_giroref9_Kept : Int → RL rs_giroref9_Kept.cells := fun x => (x, ())
def up_giroref9_Kept : RL rs_giroref9_Kept.cells → Int := fun d => d.1
def R_giroref9_Kept : Nat × Entry := (31, fun k nm args h => entry as_giroref9_Kept rs_giroref9_Kept (fun d => giroref9_Kept k d.1 d.2.1 d.2.2.1 d.2.2.2.1) pk_giroref9_Kept nm args h)
theorem giroref9_Kept_ev (k : Nat) (d : AD as_giroref9_Kept) : evF E_giroref9_Kept A_giroref9_Kept k 1000 0 Proofs.Try.f31 (absArgs as_giroref9_Kept d).1 (absArgs as_giroref9_Kept d).2 (outM rs_giroref9_Kept up_giroref9_Kept) = giroref9_Kept k d.1 d.2.1 d.2.2.1 d.2.2.2.1 := by
  obtain ⟨_, _, _, _, _⟩ := d
  kernel_rfl
theorem R_giroref9_Kept_ok : EntryOK Proofs.Try.prog R_giroref9_Kept := fun k _ _ _ _ _ hy =>
  entry_sound (unpack := up_giroref9_Kept) (A := A_giroref9_Kept) (k := k) (pre := 1000) (na := 0) (E := E_giroref9_Kept) E_giroref9_Kept_ok E_giroref9_Kept_local mixed_orders (f := 31) (fn := Proofs.Try.f31) (by kernel_rfl) (body_loops (loopsOK_none (by kernel_rfl))) (enters (fn := Proofs.Try.f31) (by kernel_rfl) (by kernel_rfl) (by kernel_rfl)) (fun _ => rfl) (giroref9_Kept_ev k) hy
theorem R_giroref9_Kept_local : EntryLocal R_giroref9_Kept.2 := entry_local (S := fun k (d : AD as_giroref9_Kept) => giroref9_Kept k d.1 d.2.1 d.2.2.1 d.2.2.2.1)

/-! ### giro/giroref15.short -/
noncomputable def E_giroref15_short : Env := ⟨Proofs.Try.prog, fun _ => false, sumsOf [R_giroref15_classed, R_giroref10_Net, R_giroref15_sent, R_giroref9_Kept]⟩
def I_giroref15_short_L0 : Spec := ⟨[(1, .c (.dat false (.pair (.int .i64) (.pair (.int .i64) (.pair (.int .i64) (.pair (.int .i64) (.pair (.int .i64) (.pair (.int .i64) (.int .i64))))))))), (2, .c (.int .i64)), (3, .c (.lit (.ptr 1001000 0))), (7, .c (.int .i64)), (8, .c (.int .i64)), (9, .c (.int .i64)), (10, .c (.int .i64)), (11, .c (.int .i64))], [.box true [.dat false (.pair (.int .i64) (.pair (.int .i64) (.int .i64))), .dat false (.sl (.int .i64)), .dat false (.int .i64), .dat false (.sl (.int .i64))]], []⟩
def O_giroref15_short_L0 : List (Ex × Spec) := [(.exit 0, ⟨[(2, .c (.int .i64)), (3, .c (.lit (.ptr 1001000 0))), (7, .c (.int .i64)), (8, .c (.int .i64)), (9, .c (.int .i64)), (10, .c (.int .i64))], [.box true [.dat false (.pair (.int .i64) (.pair (.int .i64) (.int .i64))), .dat false (.sl (.int .i64)), .dat false (.int .i64), .dat false (.sl (.int .i64))]], []⟩), (.ret, ⟨[(6, .c (.bool))], [], []⟩)]
def T_giroref15_short_L0 : OutD O_giroref15_short_L0 → (Int × Int × Int × Int × Int × (List (Int × Int × Int)) × (List (List Int)) × (List Int) × (List (List Int))) ⊕ Bool
 | .inl d => .inl (d.1.1.1, d.1.2.2.1.1, d.1.2.2.2.1.1, d.1.2.2.2.2.1.1, d.1.2.2.2.2.2.1.1, d.2.1.1, d.2.1.2.1, d.2.1.2.2.1, d.2.1.2.2.2.1)
 | .inr d => .inr d.1.1.1
def e_giroref15_short_L0 (base : Nat) (x : (Int × Int × Int × Int × Int × (List (Int × Int × Int)) × (List (List Int)) × (List Int) × (List (List Int))) ⊕ Bool) (R : Type) (K : Ex → St → Option R) : Option R := match x with
 | .inl x => K (.exit 0) (stOf base ⟨[(2, .c (.int .i64)), (3, .c (.lit (.ptr 1001000 0))), (7, .c (.int .i64)), (8, .c (.int .i64)), (9, .c (.int .i64)), (10, .c (.int .i64))], [.box true [.dat false (.pair (.int .i64) (.pair (.int .i64) (.int .i64))), .dat false (.sl (.int .i64)), .dat false (.int .i64), .dat false (.sl (.int .i64))]], []⟩ (((x.1, ()), (), (x.2.1, ()), (x.2.2.1, ()), (x.2.2.2.1, ()), (x.2.2.2.2.1, ()), ()), ((x.2.2.2.2.2.1, x.2.2.2.2.2.2.1, x.2.2.2.2.2.2.2.1, x.2.2.2.2.2.2.2.2, ()), ())))
 | .inr x => K .ret (stOf base ⟨[(6, .c (.bool))], [], []⟩ (((x, ()), ()), ()))
def L_giroref15_short_L0 : LoopSum := ⟨I_giroref15_short_L0, O_giroref15_short_L0, (Int × Int × Int × Int × Int × (List (Int × Int × Int)) × (List (List Int)) × (List Int) × (List (List Int))) ⊕ Bool, fun k d => giroref15_short_L0 k k d.1.1.1 d.1.2.1.1 d.1.2.2.2.1.1 d.1.2.2.2.2.1.1 d.1.2.2.2.2.2.1.1 d.1.2.2.2.2.2.2.1.1 d.1.2.2.2.2.2.2.2.1.1 d.2.1.1 d.2.1.2.1 d.2.1.2.2.1 d.2.1.2.2.2.1, e_giroref15_short_L0⟩
def A_giroref15_short : Notes := ⟨[], [(7, L_giroref15_short_L0)]⟩
theorem E_giroref15_short_ok : EnvOK E_giroref15_short := ⟨eqOK_none, sumsOf_ok (List.forall_mem_cons.2 ⟨R_giroref15_classed_ok, List.forall_mem_cons.2 ⟨R_giroref10_Net_ok, List.forall_mem_cons.2 ⟨R_giroref15_sent_ok, List.forall_mem_cons.2 ⟨R_giroref9_Kept_ok, List.forall_mem_nil _⟩⟩⟩⟩)⟩
theorem E_giroref15_short_local : SumsLocal E_giroref15_short.sums := sumsOf_local (List.forall_mem_cons.2 ⟨R_giroref15_classed_local, List.forall_mem_cons.2 ⟨R_giroref10_Net_local, List.forall_mem_cons.2 ⟨R_giroref15_sent_local, List.forall_mem_cons.2 ⟨R_giroref9_Kept_local, List.forall_mem_nil _⟩⟩⟩⟩)
theorem giroref15_short_L0_step (k : Nat) (rec : List (Int × Int × Int × Int × Int × Int × Int) → Int → Int → Int → Int → Int → Int → List (Int × Int × Int) → List (List Int) → List Int → List (List Int) → Option ((Int × Int × Int × Int × Int × (List (Int × Int × Int)) × (List (List Int)) × (List Int) × (List (List Int))) ⊕ Bool)) (d : I_giroref15_short_L0.den) : giroref15_short_L0b k rec d.1.1.1 d.1.2.1.1 d.1.2.2.2.1.1 d.1.2.2.2.2.1.1 d.1.2.2.2.2.2.1.1 d.1.2.2.2.2.2.2.1.1 d.1.2.2.2.2.2.2.2.1.1 d.2.1.1 d.2.1.2.1 d.2.1.2.2.1 d.2.1.2.2.2.1 = evC E_giroref15_short A_giroref15_short k 1000 0 130 (loopAt (bodyOf Proofs.Try.f57) 0) (stOf (1000 + loopBase) I_giroref15_short_L0 d) (roundK 1000 I_giroref15_short_L0 O_giroref15_short_L0 T_giroref15_short_L0 fun d => rec d.1.1.1 d.1.2.1.1 d.1.2.2.2.1.1 d.1.2.2.2.2.1.1 d.1.2.2.2.2.2.1.1 d.1.2.2.2.2.2.2.1.1 d.1.2.2.2.2.2.2.2.1.1 d.2.1.1 d.2.1.2.1 d.2.1.2.2.1 d.2.1.2.2.2.1) := by
  obtain ⟨⟨⟨_, _⟩, ⟨_, _⟩, _, ⟨_, _⟩, ⟨_, _⟩, ⟨_, _⟩, ⟨_, _⟩, ⟨_, _⟩, _⟩, ⟨⟨_, _, _, _, _⟩, _⟩⟩ := d
  kernel_rfl
theorem giroref15_short_L0_ok : LoopOK Proofs.Try.prog 1000 0 130 (loopAt (bodyOf Proofs.Try.f57) 0) L_giroref15_short_L0 :=
  loop_sound (A := A_giroref15_short) (inS := I_giroref15_short_L0) (outs := O_giroref15_short_L0) E_giroref15_short_ok E_giroref15_short_local mixed_orders (loopsOK_none (by kernel_rfl)) T_giroref15_short_L0 e_giroref15_short_L0 (by intro o R K; rcases o with o | o <;> rfl) (fun k n d => giroref15_short_L0 k n d.1.1.1 d.1.2.1.1 d.1.2.2.2.1.1 d.1.2.2.2.2.1.1 d.1.2.2.2.2.2.1.1 d.1.2.2.2.2.2.2.1.1 d.1.2.2.2.2.2.2.2.1.1 d.2.1.1 d.2.1.2.1 d.2.1.2.2.1 d.2.1.2.2.2.1) (fun _ _ => rfl) (fun k n d => giroref15_short_L0_step k (giroref15_short_L0 k n) d)
def as_giroref15_short : List AS := [.agg [.dat false (.pair (.int .i64) (.pair (.int .i64) (.int .i64))), .dat false (.sl (.int .i64)), .dat false (.int .i64), .dat false (.sl (.int .i64))], .c (.dat false (.pair (.int .i64) (.pair (.int .i64) (.pair (.int .i64) (.pair (.int .i64) (.pair (.int .i64) (.pair (.int .i64) (.int .i64)))))))), .c (.int .i64)]
def rs_giroref15_short : RS := .c (.bool)
def pk_giroref15_short : Bool → RL rs_giroref15_short.cells := fun x => (x, ())
def up_giroref15_short : RL rs_giroref15_short.cells → Bool := fun d => d.1
def R_giroref15_short : Nat × Entry := (57, fun k nm args h => entry as_giroref15_short rs_giroref15_short (fun d => giroref15_short k d.1 d.2.1 d.2.2.1 d.2.2.2.1 d.2.2.2.2.1 d.2.2.2.2.2.1) pk_giroref15_short nm args h)
theorem giroref15_short_ev (k : Nat) (d : AD as_giroref15_short) : evF E_giroref15_short A_giroref15_short k 1000 0 Proofs.Try.f57 (absArgs as_giroref15_short d).1 (absArgs as_giroref15_short d).2 (outM rs_giroref15_short up_giroref15_short) = giroref15_short k d.1 d.2.1 d.2.2.1 d.2.2.2.1 d.2.2.2.2.1 d.2.2.2.2.2.1 := by
  obtain ⟨_, _, _, _, _, _, _⟩ := d
  kernel_rfl
theorem R_giroref15_short_ok : EntryOK Proofs.Try.prog R_giroref15_short := fun k _ _ _ _ _ hy =>
  entry_sound (unpack := up_giroref15_short) (A := A_giroref15_short) (k := k) (pre := 1000) (na := 0) (E := E_giroref15_short) E_giroref15_short_ok E_giroref15_short_local mixed_orders (f := 57) (fn := Proofs.Try.f57) (by kernel_rfl) (body_loops (loopsOK_of (n := 1) (by kernel_rfl) fun i hi => match i, hi with | 0, _ => ⟨L_giroref15_short_L0, by kernel_rfl, giroref15_short_L0_ok⟩ | i + 1, hi => absurd hi (by omega))) (enters (fn := Proofs.Try.f57) (by kernel_rfl) (by kernel_rfl) (by kernel_rfl)) (fun _ => rfl) (giroref15_short_ev k) hy
theorem R_giroref15_short_local : EntryLocal R_giroref15_short.2 := entry_local (S := fun k (d : AD as_giroref15_short) => giroref15_short k d.1 d.2.1 d.2.2.1 d.2.2.2.1 d.2.2.2.2.1 d.2.2.2.2.2.1)

/-! ### giro/giroref15.Short -/
noncomputable def E_giroref15_Short : Env := ⟨Proofs.Try.prog, fun _ => false, sumsOf [R_giroref15_short]⟩
def I_giroref15_Short_L0 : Spec := ⟨[(1, .c (.dat false (.pair (.int .i64) (.pair (.int .i64) (.pair (.int .i64) (.pair (.int .i64) (.pair (.int .i64) (.pair (.int .i64) (.int .i64))))))))), (2, .c (.lit (.ptr 1001000 0))), (5, .c (.lit (.osl 1001001 none))), (6, .c (.int .i64))], [.box true [.dat false (.pair (.int .i64) (.pair (.int .i64) (.int .i64))), .dat false (.sl (.int .i64)), .dat false (.int .i64), .dat false (.sl (.int .i64))], .arr true (.int .i64)], [(5, none, (.int .i64), false)]⟩
def O_giroref15_Short_L0 : List (Ex × Spec) := [(.exit 0, ⟨[(5, .c (.lit (.osl 1001000 none)))], [.arr true (.int .i64)], []⟩)]
def T_giroref15_Short_L0 : OutD O_giroref15_Short_L0 → List Int := fun d => d.2.1
def e_giroref15_Short_L0 (base : Nat) (x : List Int) (R : Type) (K : Ex → St → Option R) : Option R := K (.exit 0) (stOf base ⟨[(5, .c (.lit (.osl 1001000 none)))], [.arr true (.int .i64)], []⟩ (((), ()), (x, ())))
def L_giroref15_Short_L0 : LoopSum := ⟨I_giroref15_Short_L0, O_giroref15_Short_L0, List Int, fun k d => giroref15_Short_L0 k k d.1.1.1 d.1.2.2.2.1.1 d.2.1.1 d.2.1.2.1 d.2.1.2.2.1 d.2.1.2.2.2.1 d.2.2.1, e_giroref15_Short_L0⟩
def A_giroref15_Short : Notes := ⟨[], [(3, L_giroref15_Short_L0)]⟩
theorem E_giroref15_Short_ok : EnvOK E_giroref15_Short := ⟨eqOK_none, sumsOf_ok (List.forall_mem_cons.2 ⟨R_giroref15_short_ok, List.forall_mem_nil _⟩)⟩
theorem E_giroref15_Short_local : SumsLocal E_giroref15_Short.sums := sumsOf_local (List.forall_mem_cons.2 ⟨R_giroref15_short_local, List.forall_mem_nil _⟩)
theorem giroref15_Short_L0_step (k : Nat) (rec : List (Int × Int × Int × Int × Int × Int × Int) → Int → List (Int × Int × Int) → List (List Int) → List Int → List (List Int) → List Int → Option (List Int)) (d : I_giroref15_Short_L0.den) : giroref15_Short_L0b k rec d.1.1.1 d.1.2.2.2.1.1 d.2.1.1 d.2.1.2.1 d.2.1.2.2.1 d.2.1.2.2.2.1 d.2.2.1 = evC E_giroref15_Short A_giroref15_Short k 1000 0 23 (loopAt (bodyOf Proofs.Try.f38) 0) (stOf (1000 + loopBase) I_giroref15_Short_L0 d) (roundK 1000 I_giroref15_Short_L0 O_giroref15_Short_L0 T_giroref15_Short_L0 fun d => rec d.1.1.1 d.1.2.2.2.1.1 d.2.1.1 d.2.1.2.1 d.2.1.2.2.1 d.2.1.2.2.2.1 d.2.2.1) := by
  obtain ⟨⟨⟨_, _⟩, _, _, ⟨_, _⟩, _⟩, ⟨⟨_, _, _, _, _⟩, _, _⟩⟩ := d
  kernel_rfl
theorem giroref15_Short_L0_ok : LoopOK Proofs.Try.prog 1000 0 23 (loopAt (bodyOf Proofs.Try.f38) 0) L_giroref15_Short_L0 :=
  loop_sound (A := A_giroref15_Short) (inS := I_giroref15_Short_L0) (outs := O_giroref15_Short_L0) E_giroref15_Short_ok E_giroref15_Short_local mixed_orders (loopsOK_none (by kernel_rfl)) T_giroref15_Short_L0 e_giroref15_Short_L0 (fun _ _ _ => rfl) (fun k n d => giroref15_Short_L0 k n d.1.1.1 d.1.2.2.2.1.1 d.2.1.1 d.2.1.2.1 d.2.1.2.2.1 d.2.1.2.2.2.1 d.2.2.1) (fun _ _ => rfl) (fun k n d => giroref15_Short_L0_step k (giroref15_Short_L0 k n) d)
def as_giroref15_Short : List AS := [.agg [.dat false (.pair (.int .i64) (.pair (.int .i64) (.int .i64))), .dat false (.sl (.int .i64)), .dat false (.int .i64), .dat false (.sl (.int .i64))], .c (.dat false (.pair (.int .i64) (.pair (.int .i64) (.pair (.int .i64) (.pair (.int .i64) (.pair (.int .i64) (.pair (.int .i64) (.int .i64))))))))]
def rs_giroref15_Short : RS := .c (.own (.int .i64))
def pk_giroref15_Short : List Int → RL rs_giroref15_Short.cells := fun x => (x, ())
def up_giroref15_Short : RL rs_giroref15_Short.cells → List Int := fun d => d.1
def R_giroref15_Short : Nat × Entry := (38, fun k nm args h => entry as_giroref15_Short rs_giroref15_Short (fun d => giroref15_Short k d.1 d.2.1 d.2.2.1 d.2.2.2.1 d.2.2.2.2.1) pk_giroref15_Short nm args h)
theorem giroref15_Short_ev (k : Nat) (d : AD as_giroref15_Short) : evF E_giroref15_Short A_giroref15_Short k 1000 0 Proofs.Try.f38 (absArgs as_giroref15_Short d).1 (absArgs as_giroref15_Short d).2 (outM rs_giroref15_Short up_giroref15_Short) = giroref15_Short k d.1 d.2.1 d.2.2.1 d.2.2.2.1 d.2.2.2.2.1 := by
  obtain ⟨_, _, _, _, _, _⟩ := d
  kernel_rfl
theorem R_giroref15_Short_ok : EntryOK Proofs.Try.prog R_giroref15_Short := fun k _ _ _ _ _ hy =>
  entry_sound (unpack := up_giroref15_Short) (A := A_giroref15_Short) (k := k) (pre := 1000) (na := 0) (E := E_giroref15_Short) E_giroref15_Short_ok E_giroref15_Short_local mixed_orders (f := 38) (fn := Proofs.Try.f38) (by kernel_rfl) (body_loops (loopsOK_of (n := 1) (by kernel_rfl) fun i hi => match i, hi with | 0, _ => ⟨L_giroref15_Short_L0, by kernel_rfl, giroref15_Short_L0_ok⟩ | i + 1, hi => absurd hi (by omega))) (enters (fn := Proofs.Try.f38) (by kernel_rfl) (by kernel_rfl) (by kernel_rfl)) (fun _ => rfl) (giroref15_Short_ev k) hy
theorem R_giroref15_Short_local : EntryLocal R_giroref15_Short.2 := entry_local (S := fun k (d : AD as_giroref15_Short) => giroref15_Short k d.1 d.2.1 d.2.2.1 d.2.2.2.1 d.2.2.2.2.1)

/-! ### giro/giroref15.Fits -/
noncomputable def E_giroref15_Fits : Env := ⟨Proofs.Try.prog, fun _ => false, sumsOf [R_giroref15_All, R_giroref15_Short]⟩
def A_giroref15_Fits : Notes := ⟨[], []⟩
theorem E_giroref15_Fits_ok : EnvOK E_giroref15_Fits := ⟨eqOK_none, sumsOf_ok (List.forall_mem_cons.2 ⟨R_giroref15_All_ok, List.forall_mem_cons.2 ⟨R_giroref15_Short_ok, List.forall_mem_nil _⟩⟩)⟩
theorem E_giroref15_Fits_local : SumsLocal E_giroref15_Fits.sums := sumsOf_local (List.forall_mem_cons.2 ⟨R_giroref15_All_local, List.forall_mem_cons.2 ⟨R_giroref15_Short_local, List.forall_mem_nil _⟩⟩)
def as_giroref15_Fits : List AS := [.agg [.dat false (.pair (.int .i64) (.pair (.int .i64) (.int .i64))), .dat false (.sl (.int .i64)), .dat false (.int .i64), .dat false (.sl (.int .i64))], .c (.dat false (.pair (.int .i64) (.pair (.int .i64) (.pair (.int .i64) (.pair (.int .i64) (.pair (.int .i64) (.pair (.int .i64) (.int .i64))))))))]
def rs_giroref15_Fits : RS := .c (.bool)
def pk_giroref15_Fits : Bool → RL rs_giroref15_Fits.cells := fun x => (x, ())
def up_giroref15_Fits : RL rs_giroref15_Fits.cells → Bool := fun d => d.1
def R_giroref15_Fits : Nat × Entry := (18, fun k nm args h => entry as_giroref15_Fits rs_giroref15_Fits (fun d => giroref15_Fits k d.1 d.2.1 d.2.2.1 d.2.2.2.1 d.2.2.2.2.1) pk_giroref15_Fits nm args h)
theorem giroref15_Fits_ev (k : Nat) (d : AD as_giroref15_Fits) : evF E_giroref15_Fits A_giroref15_Fits k 1000 0 Proofs.Try.f18 (absArgs as_giroref15_Fits d).1 (absArgs as_giroref15_Fits d).2 (outM rs_giroref15_Fits up_giroref15_Fits) = giroref15_Fits k d.1 d.2.1 d.2.2.1 d.2.2.2.1 d.2.2.2.2.1 := by
  obtain ⟨_, _, _, _, _, _⟩ := d
  kernel_rfl
theorem R_giroref15_Fits_ok : EntryOK Proofs.Try.prog R_giroref15_Fits := fun k _ _ _ _ _ hy =>
  entry_sound (unpack := up_giroref15_Fits) (A := A_giroref15_Fits) (k := k) (pre := 1000) (na := 0) (E := E_giroref15_Fits) E_giroref15_Fits_ok E_giroref15_Fits_local mixed_orders (f := 18) (fn := Proofs.Try.f18) (by kernel_rfl) (body_loops (loopsOK_none (by kernel_rfl))) (enters (fn := Proofs.Try.f18) (by kernel_rfl) (by kernel_rfl) (by kernel_rfl)) (fun _ => rfl) (giroref15_Fits_ev k) hy
theorem R_giroref15_Fits_local : EntryLocal R_giroref15_Fits.2 := entry_local (S := fun k (d : AD as_giroref15_Fits) => giroref15_Fits k d.1 d.2.1 d.2.2.1 d.2.2.2.1 d.2.2.2.2.1)

/-! ### giro/fits.May -/
noncomputable def E_fits_May : Env := ⟨Proofs.Try.prog, fun _ => false, sumsOf []⟩
def A_fits_May : Notes := ⟨[], []⟩
theorem E_fits_May_ok : EnvOK E_fits_May := ⟨eqOK_none, sumsOf_ok (List.forall_mem_nil _)⟩
theorem E_fits_May_local : SumsLocal E_fits_May.sums := sumsOf_local (List.forall_mem_nil _)
def as_fits_May : List AS := [.agg [.dat false (.pair (.int .i64) (.pair (.int .i64) (.int .i64))), .dat false (.sl (.int .i64)), .dat false (.int .i64), .dat false (.sl (.int .i64))], .agg [.int .i64, .int .i64, .int .i64, .int .i64, .int .i64, .int .i64, .int .i64]]
def rs_fits_May : RS := .c (.bool)
def pk_fits_May : Bool → RL rs_fits_May.cells := fun x => (x, ())
def up_fits_May : RL rs_fits_May.cells → Bool := fun d => d.1
def R_fits_May : Nat × Entry := (25, fun k nm args h => entry as_fits_May rs_fits_May (fun d => fits_May k d.1 d.2.1 d.2.2.1 d.2.2.2.1 d.2.2.2.2.1 d.2.2.2.2.2.1 d.2.2.2.2.2.2.1 d.2.2.2.2.2.2.2.1 d.2.2.2.2.2.2.2.2.1 d.2.2.2.2.2.2.2.2.2.1 d.2.2.2.2.2.2.2.2.2.2.1) pk_fits_May nm args h)
theorem fits_May_ev (k : Nat) (d : AD as_fits_May) : evF E_fits_May A_fits_May k 1000 0 Proofs.Try.f25 (absArgs as_fits_May d).1 (absArgs as_fits_May d).2 (outM rs_fits_May up_fits_May) = fits_May k d.1 d.2.1 d.2.2.1 d.2.2.2.1 d.2.2.2.2.1 d.2.2.2.2.2.1 d.2.2.2.2.2.2.1 d.2.2.2.2.2.2.2.1 d.2.2.2.2.2.2.2.2.1 d.2.2.2.2.2.2.2.2.2.1 d.2.2.2.2.2.2.2.2.2.2.1 := by
  obtain ⟨_, _, _, _, _, _, _, _, _, _, _, _⟩ := d
  kernel_rfl
theorem R_fits_May_ok : EntryOK Proofs.Try.prog R_fits_May := fun k _ _ _ _ _ hy =>
  entry_sound (unpack := up_fits_May) (A := A_fits_May) (k := k) (pre := 1000) (na := 0) (E := E_fits_May) E_fits_May_ok E_fits_May_local mixed_orders (f := 25) (fn := Proofs.Try.f25) (by kernel_rfl) (body_loops (loopsOK_none (by kernel_rfl))) (enters (fn := Proofs.Try.f25) (by kernel_rfl) (by kernel_rfl) (by kernel_rfl)) (fun _ => rfl) (fits_May_ev k) hy
theorem R_fits_May_local : EntryLocal R_fits_May.2 := entry_local (S := fun k (d : AD as_fits_May) => fits_May k d.1 d.2.1 d.2.2.1 d.2.2.2.1 d.2.2.2.2.1 d.2.2.2.2.2.1 d.2.2.2.2.2.2.1 d.2.2.2.2.2.2.2.1 d.2.2.2.2.2.2.2.2.1 d.2.2.2.2.2.2.2.2.2.1 d.2.2.2.2.2.2.2.2.2.2.1)

/-! ### giro/post.Post$1 -/
noncomputable def E_post_Post_fn1 : Env := ⟨Proofs.Try.prog, fun _ => false, sumsOf [R_fits_May]⟩
def A_post_Post_fn1 : Notes := ⟨[], []⟩
theorem E_post_Post_fn1_ok : EnvOK E_post_Post_fn1 := ⟨eqOK_none, sumsOf_ok (List.forall_mem_cons.2 ⟨R_fits_May_ok, List.forall_mem_nil _⟩)⟩
theorem E_post_Post_fn1_local : SumsLocal E_post_Post_fn1.sums := sumsOf_local (List.forall_mem_cons.2 ⟨R_fits_May_local, List.forall_mem_nil _⟩)
def as_post_Post_fn1 : List AS := [.agg [.int .i64, .int .i64, .int .i64, .int .i64, .int .i64, .int .i64, .int .i64], .ptr [.dat false (.pair (.int .i64) (.pair (.int .i64) (.int .i64))), .dat false (.sl (.int .i64)), .dat false (.int .i64), .dat false (.sl (.int .i64))]]
def rs_post_Post_fn1 : RS := .c (.bool)
def pk_post_Post_fn1 : Bool → RL rs_post_Post_fn1.cells := fun x => (x, ())
def up_post_Post_fn1 : RL rs_post_Post_fn1.cells → Bool := fun d => d.1
def R_post_Post_fn1 : Nat × Entry := (24, fun k nm args h => entry as_post_Post_fn1 rs_post_Post_fn1 (fun d => post_Post_fn1 k d.1 d.2.1 d.2.2.1 d.2.2.2.1 d.2.2.2.2.1 d.2.2.2.2.2.1 d.2.2.2.2.2.2.1 d.2.2.2.2.2.2.2.1 d.2.2.2.2.2.2.2.2.1 d.2.2.2.2.2.2.2.2.2.1 d.2.2.2.2.2.2.2.2.2.2.1) pk_post_Post_fn1 nm args h)
theorem post_Post_fn1_ev (k : Nat) (d : AD as_post_Post_fn1) : evF E_post_Post_fn1 A_post_Post_fn1 k 1000 0 Proofs.Try.f24 (absArgs as_post_Post_fn1 d).1 (absArgs as_post_Post_fn1 d).2 (outM rs_post_Post_fn1 up_post_Post_fn1) = post_Post_fn1 k d.1 d.2.1 d.2.2.1 d.2.2.2.1 d.2.2.2.2.1 d.2.2.2.2.2.1 d.2.2.2.2.2.2.1 d.2.2.2.2.2.2.2.1 d.2.2.2.2.2.2.2.2.1 d.2.2.2.2.2.2.2.2.2.1 d.2.2.2.2.2.2.2.2.2.2.1 := by
  obtain ⟨_, _, _, _, _, _, _, _, _, _, _, _⟩ := d
  kernel_rfl
theorem R_post_Post_fn1_ok : EntryOK Proofs.Try.prog R_post_Post_fn1 := fun k _ _ _ _ _ hy =>
  entry_sound (unpack := up_post_Post_fn1) (A := A_post_Post_fn1) (k := k) (pre := 1000) (na := 0) (E := E_post_Post_fn1) E_post_Post_fn1_ok E_post_Post_fn1_local mixed_orders (f := 24) (fn := Proofs.Try.f24) (by kernel_rfl) (body_loops (loopsOK_none (by kernel_rfl))) (enters (fn := Proofs.Try.f24) (by kernel_rfl) (by kernel_rfl) (by kernel_rfl)) (fun _ => rfl) (post_Post_fn1_ev k) hy
theorem R_post_Post_fn1_local : EntryLocal R_post_Post_fn1.2 := entry_local (S := fun k (d : AD as_post_Post_fn1) => post_Post_fn1 k d.1 d.2.1 d.2.2.1 d.2.2.2.1 d.2.2.2.2.1 d.2.2.2.2.2.1 d.2.2.2.2.2.2.1 d.2.2.2.2.2.2.2.1 d.2.2.2.2.2.2.2.2.1 d.2.2.2.2.2.2.2.2.2.1 d.2.2.2.2.2.2.2.2.2.2.1)

/-! ### slices.IndexFunc[[]giro/api.Pay,giro/api.Pay] -/
noncomputable def E_slices_IndexFunc_Pay__post_Post_fn1 : Env := ⟨Proofs.Try.prog, fun _ => false, sumsOf [R_post_Post_fn1]⟩
def I_slices_IndexFunc_Pay__post_Post_fn1_L0 : Spec := ⟨[(0, .c (.dat false (.pair (.int .i64) (.pair (.int .i64) (.pair (.int .i64) (.pair (.int .i64) (.pair (.int .i64) (.pair (.int .i64) (.int .i64))))))))), (1, .c (.lit (.fn 24 [1001000]))), (7, .c (.int .i64)), (8, .c (.int .i64))], [.robox [.dat false (.pair (.int .i64) (.pair (.int .i64) (.int .i64))), .dat false (.sl (.int .i64)), .dat false (.int .i64), .dat false (.sl (.int .i64))]], []⟩
def O_slices_IndexFunc_Pay__post_Post_fn1_L0 : List (Ex × Spec) := [(.exit 0, ⟨[], [], []⟩), (.ret, ⟨[(4, .c (.int .i64))], [], []⟩)]
def T_slices_IndexFunc_Pay__post_Post_fn1_L0 : OutD O_slices_IndexFunc_Pay__post_Post_fn1_L0 → Unit ⊕ Int
 | .inl d => .inl ()
 | .inr d => .inr d.1.1.1
def e_slices_IndexFunc_Pay__post_Post_fn1_L0 (base : Nat) (x : Unit ⊕ Int) (R : Type) (K : Ex → St → Option R) : Option R := match x with
 | .inl x => K (.exit 0) (stOf base ⟨[], [], []⟩ ((), ()))
 | .inr x => K .ret (stOf base ⟨[(4, .c (.int .i64))], [], []⟩ (((x, ()), ()), ()))
def L_slices_IndexFunc_Pay__post_Post_fn1_L0 : LoopSum := ⟨I_slices_IndexFunc_Pay__post_Post_fn1_L0, O_slices_IndexFunc_Pay__post_Post_fn1_L0, Unit ⊕ Int, fun k d => slices_IndexFunc_Pay__post_Post_fn1_L0 k k d.1.1.1 d.1.2.2.1.1 d.1.2.2.2.1.1 d.2.1.1 d.2.1.2.1 d.2.1.2.2.1 d.2.1.2.2.2.1, e_slices_IndexFunc_Pay__post_Post_fn1_L0⟩
def A_slices_IndexFunc_Pay__post_Post_fn1 : Notes := ⟨[], [(2, L_slices_IndexFunc_Pay__post_Post_fn1_L0)]⟩
theorem E_slices_IndexFunc_Pay__post_Post_fn1_ok : EnvOK E_slices_IndexFunc_Pay__post_Post_fn1 := ⟨eqOK_none, sumsOf_ok (List.forall_mem_cons.2 ⟨R_post_Post_fn1_ok, List.forall_mem_nil _⟩)⟩
theorem E_slices_IndexFunc_Pay__post_Post_fn1_local : SumsLocal E_slices_IndexFunc_Pay__post_Post_fn1.sums := sumsOf_local (List.forall_mem_cons.2 ⟨R_post_Post_fn1_local, List.forall_mem_nil _⟩)
theorem slices_IndexFunc_Pay__post_Post_fn1_L0_step (k : Nat) (rec : List (Int × Int × Int × Int × Int × Int × Int) → Int → Int → List (Int × Int × Int) → List (List Int) → List Int → List (List Int) → Option (Unit ⊕ Int)) (d : I_slices_IndexFunc_Pay__post_Post_fn1_L0.den) : slices_IndexFunc_Pay__post_Post_fn1_L0b k rec d.1.1.1 d.1.2.2.1.1 d.1.2.2.2.1.1 d.2.1.1 d.2.1.2.1 d.2.1.2.2.1 d.2.1.2.2.2.1 = evC E_slices_IndexFunc_Pay__post_Post_fn1 A_slices_IndexFunc_Pay__post_Post_fn1 k 1000 0 19 (loopAt (bodyOf Proofs.Try.f39) 0) (stOf (1000 + loopBase) I_slices_IndexFunc_Pay__post_Post_fn1_L0 d) (roundK 1000 I_slices_IndexFunc_Pay__post_Post_fn1_L0 O_slices_IndexFunc_Pay__post_Post_fn1_L0 T_slices_IndexFunc_Pay__post_Post_fn1_L0 fun d => rec d.1.1.1 d.1.2.2.1.1 d.1.2.2.2.1.1 d.2.1.1 d.2.1.2.1 d.2.1.2.2.1 d.2.1.2.2.2.1) := by
  obtain ⟨⟨⟨_, _⟩, _, ⟨_, _⟩, ⟨_, _⟩, _⟩, ⟨⟨_, _, _, _, _⟩, _⟩⟩ := d
  kernel_rfl
theorem slices_IndexFunc_Pay__post_Post_fn1_L0_ok : LoopOK Proofs.Try.prog 1000 0 19 (loopAt (bodyOf Proofs.Try.f39) 0) L_slices_IndexFunc_Pay__post_Post_fn1_L0 :=
  loop_sound (A := A_slices_IndexFunc_Pay__post_Post_fn1) (inS := I_slices_IndexFunc_Pay__post_Post_fn1_L0) (outs := O_slices_IndexFunc_Pay__post_Post_fn1_L0) E_slices_IndexFunc_Pay__post_Post_fn1_ok E_slices_IndexFunc_Pay__post_Post_fn1_local mixed_orders (loopsOK_none (by kernel_rfl)) T_slices_IndexFunc_Pay__post_Post_fn1_L0 e_slices_IndexFunc_Pay__post_Post_fn1_L0 (by intro o R K; rcases o with o | o <;> rfl) (fun k n d => slices_IndexFunc_Pay__post_Post_fn1_L0 k n d.1.1.1 d.1.2.2.1.1 d.1.2.2.2.1.1 d.2.1.1 d.2.1.2.1 d.2.1.2.2.1 d.2.1.2.2.2.1) (fun _ _ => rfl) (fun k n d => slices_IndexFunc_Pay__post_Post_fn1_L0_step k (slices_IndexFunc_Pay__post_Post_fn1_L0 k n) d)
def as_slices_IndexFunc_Pay__post_Post_fn1 : List AS := [.c (.dat false (.pair (.int .i64) (.pair (.int .i64) (.pair (.int .i64) (.pair (.int .i64) (.pair (.int .i64) (.pair (.int .i64) (.int .i64)))))))), .fn 24 [[.dat false (.pair (.int .i64) (.pair (.int .i64) (.int .i64))), .dat false (.sl (.int .i64)), .dat false (.int .i64), .dat false (.sl (.int .i64))]]]
def rs_slices_IndexFunc_Pay__post_Post_fn1 : RS := .c (.int .i64)
def pk_slices_IndexFunc_Pay__post_Post_fn1 : Int → RL rs_slices_IndexFunc_Pay__post_Post_fn1.cells := fun x => (x, ())
def up_slices_IndexFunc_Pay__post_Post_fn1 : RL rs_slices_IndexFunc_Pay__post_Post_fn1.cells → Int := fun d => d.1
def R_slices_IndexFunc_Pay__post_Post_fn1 : Nat × Entry := (39, fun k nm args h => entry as_slices_IndexFunc_Pay__post_Post_fn1 rs_slices_IndexFunc_Pay__post_Post_fn1 (fun d => slices_IndexFunc_Pay__post_Post_fn1 k d.1 d.2.1 d.2.2.1 d.2.2.2.1 d.2.2.2.2.1) pk_slices_IndexFunc_Pay__post_Post_fn1 nm args h)
theorem slices_IndexFunc_Pay__post_Post_fn1_ev (k : Nat) (d : AD as_slices_IndexFunc_Pay__post_Post_fn1) : evF E_slices_IndexFunc_Pay__post_Post_fn1 A_slices_IndexFunc_Pay__post_Post_fn1 k 1000 0 Proofs.Try.f39 (absArgs as_slices_IndexFunc_Pay__post_Post_fn1 d).1 (absArgs as_slices_IndexFunc_Pay__post_Post_fn1 d).2 (outM rs_slices_IndexFunc_Pay__post_Post_fn1 up_slices_IndexFunc_Pay__post_Post_fn1) = slices_IndexFunc_Pay__post_Post_fn1 k d.1 d.2.1 d.2.2.1 d.2.2.2.1 d.2.2.2.2.1 := by
  obtain ⟨_, _, _, _, _, _⟩ := d
  kernel_rfl
theorem R_slices_IndexFunc_Pay__post_Post_fn1_ok : EntryOK Proofs.Try.prog R_slices_IndexFunc_Pay__post_Post_fn1 := fun k _ _ _ _ _ hy =>
  entry_sound (unpack := up_slices_IndexFunc_Pay__post_Post_fn1) (A := A_slices_IndexFunc_Pay__post_Post_fn1) (k := k) (pre := 1000) (na := 0) (E := E_slices_IndexFunc_Pay__post_Post_fn1) E_slices_IndexFunc_Pay__post_Post_fn1_ok E_slices_IndexFunc_Pay__post_Post_fn1_local mixed_orders (f := 39) (fn := Proofs.Try.f39) (by kernel_rfl) (body_loops (loopsOK_of (n := 1) (by kernel_rfl) fun i hi => match i, hi with | 0, _ => ⟨L_slices_IndexFunc_Pay__post_Post_fn1_L0, by kernel_rfl, slices_IndexFunc_Pay__post_Post_fn1_L0_ok⟩ | i + 1, hi => absurd hi (by omega))) (enters (fn := Proofs.Try.f39) (by kernel_rfl) (by kernel_rfl) (by kernel_rfl)) (fun _ => rfl) (slices_IndexFunc_Pay__post_Post_fn1_ev k) hy
theorem R_slices_IndexFunc_Pay__post_Post_fn1_local : EntryLocal R_slices_IndexFunc_Pay__post_Post_fn1.2 := entry_local (S := fun k (d : AD as_slices_IndexFunc_Pay__post_Post_fn1) => slices_IndexFunc_Pay__post_Post_fn1 k d.1 d.2.1 d.2.2.1 d.2.2.2.1 d.2.2.2.2.1)

/-! ### slices.ContainsFunc[[]giro/api.Pay,giro/api.Pay] -/
noncomputable def E_slices_ContainsFunc_Pay__post_Post_fn1 : Env := ⟨Proofs.Try.prog, fun _ => false, sumsOf [R_slices_IndexFunc_Pay__post_Post_fn1]⟩
def A_slices_ContainsFunc_Pay__post_Post_fn1 : Notes := ⟨[], []⟩
theorem E_slices_ContainsFunc_Pay__post_Post_fn1_ok : EnvOK E_slices_ContainsFunc_Pay__post_Post_fn1 := ⟨eqOK_none, sumsOf_ok (List.forall_mem_cons.2 ⟨R_slices_IndexFunc_Pay__post_Post_fn1_ok, List.forall_mem_nil _⟩)⟩
theorem E_slices_ContainsFunc_Pay__post_Post_fn1_local : SumsLocal E_slices_ContainsFunc_Pay__post_Post_fn1.sums := sumsOf_local (List.forall_mem_cons.2 ⟨R_slices_IndexFunc_Pay__post_Post_fn1_local, List.forall_mem_nil _⟩)
def as_slices_ContainsFunc_Pay__post_Post_fn1 : List AS := [.c (.dat false (.pair (.int .i64) (.pair (.int .i64) (.pair (.int .i64) (.pair (.int .i64) (.pair (.int .i64) (.pair (.int .i64) (.int .i64)))))))), .fn 24 [[.dat false (.pair (.int .i64) (.pair (.int .i64) (.int .i64))), .dat false (.sl (.int .i64)), .dat false (.int .i64), .dat false (.sl (.int .i64))]]]
def rs_slices_ContainsFunc_Pay__post_Post_fn1 : RS := .c (.bool)
def pk_slices_ContainsFunc_Pay__post_Post_fn1 : Bool → RL rs_slices_ContainsFunc_Pay__post_Post_fn1.cells := fun x => (x, ())
def up_slices_ContainsFunc_Pay__post_Post_fn1 : RL rs_slices_ContainsFunc_Pay__post_Post_fn1.cells → Bool := fun d => d.1
def R_slices_ContainsFunc_Pay__post_Post_fn1 : Nat × Entry := (26, fun k nm args h => entry as_slices_ContainsFunc_Pay__post_Post_fn1 rs_slices_ContainsFunc_Pay__post_Post_fn1 (fun d => slices_ContainsFunc_Pay__post_Post_fn1 k d.1 d.2.1 d.2.2.1 d.2.2.2.1 d.2.2.2.2.1) pk_slices_ContainsFunc_Pay__post_Post_fn1 nm args h)
theorem slices_ContainsFunc_Pay__post_Post_fn1_ev (k : Nat) (d : AD as_slices_ContainsFunc_Pay__post_Post_fn1) : evF E_slices_ContainsFunc_Pay__post_Post_fn1 A_slices_ContainsFunc_Pay__post_Post_fn1 k 1000 0 Proofs.Try.f26 (absArgs as_slices_ContainsFunc_Pay__post_Post_fn1 d).1 (absArgs as_slices_ContainsFunc_Pay__post_Post_fn1 d).2 (outM rs_slices_ContainsFunc_Pay__post_Post_fn1 up_slices_ContainsFunc_Pay__post_Post_fn1) = slices_ContainsFunc_Pay__post_Post_fn1 k d.1 d.2.1 d.2.2.1 d.2.2.2.1 d.2.2.2.2.1 := by
  obtain ⟨_, _, _, _, _, _⟩ := d
  kernel_rfl
theorem R_slices_ContainsFunc_Pay__post_Post_fn1_ok : EntryOK Proofs.Try.prog R_slices_ContainsFunc_Pay__post_Post_fn1 := fun k _ _ _ _ _ hy =>
  entry_sound (unpack := up_slices_ContainsFunc_Pay__post_Post_fn1) (A := A_slices_ContainsFunc_Pay__post_Post_fn1) (k := k) (pre := 1000) (na := 0) (E := E_slices_ContainsFunc_Pay__post_Post_fn1) E_slices_ContainsFunc_Pay__post_Post_fn1_ok E_slices_ContainsFunc_Pay__post_Post_fn1_local mixed_orders (f := 26) (fn := Proofs.Try.f26) (by kernel_rfl) (body_loops (loopsOK_none (by kernel_rfl))) (enters (fn := Proofs.Try.f26) (by kernel_rfl) (by kernel_rfl) (by kernel_rfl)) (fun _ => rfl) (slices_ContainsFunc_Pay__post_Post_fn1_ev k) hy
theorem R_slices_ContainsFunc_Pay__post_Post_fn1_local : EntryLocal R_slices_ContainsFunc_Pay__post_Post_fn1.2 := entry_local (S := fun k (d : AD as_slices_ContainsFunc_Pay__post_Post_fn1) => slices_ContainsFunc_Pay__post_Post_fn1 k d.1 d.2.1 d.2.2.1 d.2.2.2.1 d.2.2.2.2.1)

/-! ### slices.Clone[[]giro/api.Acct,giro/api.Acct] -/
noncomputable def E_slices_Clone_Acct : Env := ⟨Proofs.Try.prog, fun _ => false, sumsOf []⟩
def A_slices_Clone_Acct : Notes := ⟨[], []⟩
theorem E_slices_Clone_Acct_ok : EnvOK E_slices_Clone_Acct := ⟨eqOK_none, sumsOf_ok (List.forall_mem_nil _)⟩
theorem E_slices_Clone_Acct_local : SumsLocal E_slices_Clone_Acct.sums := sumsOf_local (List.forall_mem_nil _)
def as_slices_Clone_Acct : List AS := [.c (.dat false (.pair (.int .i64) (.pair (.int .i64) (.int .i64))))]
def rs_slices_Clone_Acct : RS := .c (.own (.pair (.int .i64) (.pair (.int .i64) (.int .i64))))
def pk_slices_Clone_Acct : List (Int × Int × Int) → RL rs_slices_Clone_Acct.cells := fun x => (x, ())
def up_slices_Clone_Acct : RL rs_slices_Clone_Acct.cells → List (Int × Int × Int) := fun d => d.1
def R_slices_Clone_Acct : Nat × Entry := (40, fun k nm args h => entry as_slices_Clone_Acct rs_slices_Clone_Acct (fun d => slices_Clone_Acct k d.1) pk_slices_Clone_Acct nm args h)
theorem slices_Clone_Acct_nil (k : Nat) : evF E_slices_Clone_Acct A_slices_Clone_Acct k 1000 0 Proofs.Try.f40 [.c .nsl] (boxHp []) (outM rs_slices_Clone_Acct up_slices_Clone_Acct) = slices_Clone_Acct k [] := by kernel_rfl
theorem slices_Clone_Acct_ev (k : Nat) (xs : List (Int × Int × Int)) : evF E_slices_Clone_Acct A_slices_Clone_Acct k 1000 0 Proofs.Try.f40 [.c (.nfl false (.pair (.int .i64) (.pair (.int .i64) (.int .i64))) xs)] (boxHp []) (outM rs_slices_Clone_Acct up_slices_Clone_Acct) = slices_Clone_Acct k xs := by kernel_rfl
theorem R_slices_Clone_Acct_ok : EntryOK Proofs.Try.prog R_slices_Clone_Acct := fun k _ _ _ _ _ hy =>
  entry_nil (t := (.pair (.int .i64) (.pair (.int .i64) (.int .i64)))) (S := fun xs => slices_Clone_Acct k xs) (unpack := up_slices_Clone_Acct) (A := A_slices_Clone_Acct) (k := k) (pre := 1000) (na := 0) (E := E_slices_Clone_Acct) E_slices_Clone_Acct_ok E_slices_Clone_Acct_local mixed_orders (f := 40) (fn := Proofs.Try.f40) (by kernel_rfl) (body_loops (loopsOK_none (by kernel_rfl))) (enters (fn := Proofs.Try.f40) (by kernel_rfl) (by kernel_rfl) (by kernel_rfl)) (fun _ => rfl) (fun x hx => (slices_Clone_Acct_nil k).trans hx) (fun xs x hx => (slices_Clone_Acct_ev k xs).trans hx) hy
theorem R_slices_Clone_Acct_local : EntryLocal R_slices_Clone_Acct.2 := entry_local (S := fun k (d : AD as_slices_Clone_Acct) => slices_Clone_Acct k d.1)

/-! ### slices.Clone[[][]int64,[]int64] -/
noncomputable def E_slices_Clone_Rowint64 : Env := ⟨Proofs.Try.prog, fun _ => false, sumsOf []⟩
def A_slices_Clone_Rowint64 : Notes := ⟨[], []⟩
theorem E_slices_Clone_Rowint64_ok : EnvOK E_slices_Clone_Rowint64 := ⟨eqOK_none, sumsOf_ok (List.forall_mem_nil _)⟩
theorem E_slices_Clone_Rowint64_local : SumsLocal E_slices_Clone_Rowint64.sums := sumsOf_local (List.forall_mem_nil _)
def as_slices_Clone_Rowint64 : List AS := [.c (.dat true (.sl (.int .i64)))]
def rs_slices_Clone_Rowint64 : RS := .c (.jun)
def pk_slices_Clone_Rowint64 : Nat → RL rs_slices_Clone_Rowint64.cells := fun x => (x, ())
def up_slices_Clone_Rowint64 : RL rs_slices_Clone_Rowint64.cells → Nat := fun d => d.1
def R_slices_Clone_Rowint64 : Nat × Entry := (58, fun k nm args h => entry as_slices_Clone_Rowint64 rs_slices_Clone_Rowint64 (fun d => slices_Clone_Rowint64 k d.1) pk_slices_Clone_Rowint64 nm args h)
theorem slices_Clone_Rowint64_nil (k : Nat) : evF E_slices_Clone_Rowint64 A_slices_Clone_Rowint64 k 1000 0 Proofs.Try.f58 [.c .nsl] (boxHp []) (outM rs_slices_Clone_Rowint64 up_slices_Clone_Rowint64) = slices_Clone_Rowint64 k [] := by kernel_rfl
theorem slices_Clone_Rowint64_ev (k : Nat) (xs : List (List Int)) : evF E_slices_Clone_Rowint64 A_slices_Clone_Rowint64 k 1000 0 Proofs.Try.f58 [.c (.nfl true (.sl (.int .i64)) xs)] (boxHp []) (outM rs_slices_Clone_Rowint64 up_slices_Clone_Rowint64) = slices_Clone_Rowint64 k xs := by kernel_rfl
theorem R_slices_Clone_Rowint64_ok : EntryOK Proofs.Try.prog R_slices_Clone_Rowint64 := fun k _ _ _ _ _ hy =>
  entry_nil (t := (.sl (.int .i64))) (S := fun xs => slices_Clone_Rowint64 k xs) (unpack := up_slices_Clone_Rowint64) (A := A_slices_Clone_Rowint64) (k := k) (pre := 1000) (na := 0) (E := E_slices_Clone_Rowint64) E_slices_Clone_Rowint64_ok E_slices_Clone_Rowint64_local mixed_orders (f := 58) (fn := Proofs.Try.f58) (by kernel_rfl) (body_loops (loopsOK_none (by kernel_rfl))) (enters (fn := Proofs.Try.f58) (by kernel_rfl) (by kernel_rfl) (by kernel_rfl)) (fun _ => rfl) (fun x hx => (slices_Clone_Rowint64_nil k).trans hx) (fun xs x hx => (slices_Clone_Rowint64_ev k xs).trans hx) hy
theorem R_slices_Clone_Rowint64_local : EntryLocal R_slices_Clone_Rowint64.2 := entry_local (S := fun k (d : AD as_slices_Clone_Rowint64) => slices_Clone_Rowint64 k d.1)

/-! ### slices.Clone[[]int64,int64] -/
noncomputable def E_slices_Clone_int64 : Env := ⟨Proofs.Try.prog, fun _ => false, sumsOf []⟩
def A_slices_Clone_int64 : Notes := ⟨[], []⟩
theorem E_slices_Clone_int64_ok : EnvOK E_slices_Clone_int64 := ⟨eqOK_none, sumsOf_ok (List.forall_mem_nil _)⟩
theorem E_slices_Clone_int64_local : SumsLocal E_slices_Clone_int64.sums := sumsOf_local (List.forall_mem_nil _)
def as_slices_Clone_int64 : List AS := [.c (.dat false (.int .i64))]
def rs_slices_Clone_int64 : RS := .c (.own (.int .i64))
def pk_slices_Clone_int64 : List Int → RL rs_slices_Clone_int64.cells := fun x => (x, ())
def up_slices_Clone_int64 : RL rs_slices_Clone_int64.cells → List Int := fun d => d.1
def R_slices_Clone_int64 : Nat × Entry := (42, fun k nm args h => entry as_slices_Clone_int64 rs_slices_Clone_int64 (fun d => slices_Clone_int64 k d.1) pk_slices_Clone_int64 nm args h)
theorem slices_Clone_int64_nil (k : Nat) : evF E_slices_Clone_int64 A_slices_Clone_int64 k 1000 0 Proofs.Try.f42 [.c .nsl] (boxHp []) (outM rs_slices_Clone_int64 up_slices_Clone_int64) = slices_Clone_int64 k [] := by kernel_rfl
theorem slices_Clone_int64_ev (k : Nat) (xs : List Int) : evF E_slices_Clone_int64 A_slices_Clone_int64 k 1000 0 Proofs.Try.f42 [.c (.nfl false (.int .i64) xs)] (boxHp []) (outM rs_slices_Clone_int64 up_slices_Clone_int64) = slices_Clone_int64 k xs := by kernel_rfl
theorem R_slices_Clone_int64_ok : EntryOK Proofs.Try.prog R_slices_Clone_int64 := fun k _ _ _ _ _ hy =>
  entry_nil (t := (.int .i64)) (S := fun xs => slices_Clone_int64 k xs) (unpack := up_slices_Clone_int64) (A := A_slices_Clone_int64) (k := k) (pre := 1000) (na := 0) (E := E_slices_Clone_int64) E_slices_Clone_int64_ok E_slices_Clone_int64_local mixed_orders (f := 42) (fn := Proofs.Try.f42) (by kernel_rfl) (body_loops (loopsOK_none (by kernel_rfl))) (enters (fn := Proofs.Try.f42) (by kernel_rfl) (by kernel_rfl) (by kernel_rfl)) (fun _ => rfl) (fun x hx => (slices_Clone_int64_nil k).trans hx) (fun xs x hx => (slices_Clone_int64_ev k xs).trans hx) hy
theorem R_slices_Clone_int64_local : EntryLocal R_slices_Clone_int64.2 := entry_local (S := fun k (d : AD as_slices_Clone_int64) => slices_Clone_int64 k d.1)

/-! ### giro/lim.copied -/
noncomputable def E_lim_copied : Env := ⟨Proofs.Try.prog, fun _ => false, sumsOf [R_slices_Clone_Rowint64, R_slices_Clone_int64]⟩
def I_lim_copied_L0 : Spec := ⟨[(3, .c (.lit (.osl 1001000 none))), (8, .c (.dat true (.sl (.int .i64)))), (9, .c (.int .i64)), (10, .c (.int .i64))], [.pmat], []⟩
def O_lim_copied_L0 : List (Ex × Spec) := [(.exit 0, ⟨[(3, .c (.lit (.osl 1001000 none)))], [.pmat], []⟩)]
def T_lim_copied_L0 : OutD O_lim_copied_L0 → (List (List Int)) × Nat := fun d => (d.2.1.1, d.2.1.2)
def e_lim_copied_L0 (base : Nat) (x : (List (List Int)) × Nat) (R : Type) (K : Ex → St → Option R) : Option R := K (.exit 0) (stOf base ⟨[(3, .c (.lit (.osl 1001000 none)))], [.pmat], []⟩ (((), ()), ((x.1, x.2), ())))
def L_lim_copied_L0 : LoopSum := ⟨I_lim_copied_L0, O_lim_copied_L0, (List (List Int)) × Nat, fun k d => lim_copied_L0 k k d.1.2.1.1 d.1.2.2.1.1 d.1.2.2.2.1.1 d.2.1.1 d.2.1.2, e_lim_copied_L0⟩
def A_lim_copied : Notes := ⟨[], [(3, L_lim_copied_L0)]⟩
theorem E_lim_copied_ok : EnvOK E_lim_copied := ⟨eqOK_none, sumsOf_ok (List.forall_mem_cons.2 ⟨R_slices_Clone_Rowint64_ok, List.forall_mem_cons.2 ⟨R_slices_Clone_int64_ok, List.forall_mem_nil _⟩⟩)⟩
theorem E_lim_copied_local : SumsLocal E_lim_copied.sums := sumsOf_local (List.forall_mem_cons.2 ⟨R_slices_Clone_Rowint64_local, List.forall_mem_cons.2 ⟨R_slices_Clone_int64_local, List.forall_mem_nil _⟩⟩)
theorem lim_copied_L0_step (k : Nat) (rec : List (List Int) → Int → Int → List (List Int) → Nat → Option ((List (List Int)) × Nat)) (d : I_lim_copied_L0.den) : lim_copied_L0b k rec d.1.2.1.1 d.1.2.2.1.1 d.1.2.2.2.1.1 d.2.1.1 d.2.1.2 = evC E_lim_copied A_lim_copied k 1000 0 22 (loopAt (bodyOf Proofs.Try.f41) 0) (stOf (1000 + loopBase) I_lim_copied_L0 d) (roundK 1000 I_lim_copied_L0 O_lim_copied_L0 T_lim_copied_L0 fun d => rec d.1.2.1.1 d.1.2.2.1.1 d.1.2.2.2.1.1 d.2.1.1 d.2.1.2) := by
  obtain ⟨⟨_, ⟨_, _⟩, ⟨_, _⟩, ⟨_, _⟩, _⟩, ⟨_, _⟩⟩ := d
  kernel_rfl
theorem lim_copied_L0_ok : LoopOK Proofs.Try.prog 1000 0 22 (loopAt (bodyOf Proofs.Try.f41) 0) L_lim_copied_L0 :=
  loop_sound (A := A_lim_copied) (inS := I_lim_copied_L0) (outs := O_lim_copied_L0) E_lim_copied_ok E_lim_copied_local mixed_orders (loopsOK_none (by kernel_rfl)) T_lim_copied_L0 e_lim_copied_L0 (fun _ _ _ => rfl) (fun k n d => lim_copied_L0 k n d.1.2.1.1 d.1.2.2.1.1 d.1.2.2.2.1.1 d.2.1.1 d.2.1.2) (fun _ _ => rfl) (fun k n d => lim_copied_L0_step k (lim_copied_L0 k n) d)
def as_lim_copied : List AS := [.c (.dat true (.sl (.int .i64)))]
def rs_lim_copied : RS := .c (.mat)
def pk_lim_copied : List (List Int) → RL rs_lim_copied.cells := fun x => (x, ())
def up_lim_copied : RL rs_lim_copied.cells → List (List Int) := fun d => d.1
def R_lim_copied : Nat × Entry := (41, fun k nm args h => entry as_lim_copied rs_lim_copied (fun d => lim_copied k d.1) pk_lim_copied nm args h)
theorem lim_copied_ev (k : Nat) (d : AD as_lim_copied) : evF E_lim_copied A_lim_copied k 1000 0 Proofs.Try.f41 (absArgs as_lim_copied d).1 (absArgs as_lim_copied d).2 (outM rs_lim_copied up_lim_copied) = lim_copied k d.1 := by
  obtain ⟨_, _⟩ := d
  kernel_rfl
theorem R_lim_copied_ok : EntryOK Proofs.Try.prog R_lim_copied := fun k _ _ _ _ _ hy =>
  entry_sound (unpack := up_lim_copied) (A := A_lim_copied) (k := k) (pre := 1000) (na := 0) (E := E_lim_copied) E_lim_copied_ok E_lim_copied_local mixed_orders (f := 41) (fn := Proofs.Try.f41) (by kernel_rfl) (body_loops (loopsOK_of (n := 1) (by kernel_rfl) fun i hi => match i, hi with | 0, _ => ⟨L_lim_copied_L0, by kernel_rfl, lim_copied_L0_ok⟩ | i + 1, hi => absurd hi (by omega))) (enters (fn := Proofs.Try.f41) (by kernel_rfl) (by kernel_rfl) (by kernel_rfl)) (fun _ => rfl) (lim_copied_ev k) hy
theorem R_lim_copied_local : EntryLocal R_lim_copied.2 := entry_local (S := fun k (d : AD as_lim_copied) => lim_copied k d.1)

/-! ### giro/lim.Copy -/
noncomputable def E_lim_Copy : Env := ⟨Proofs.Try.prog, fun _ => false, sumsOf [R_slices_Clone_Acct, R_lim_copied, R_slices_Clone_int64]⟩
def A_lim_Copy : Notes := ⟨[], []⟩
theorem E_lim_Copy_ok : EnvOK E_lim_Copy := ⟨eqOK_none, sumsOf_ok (List.forall_mem_cons.2 ⟨R_slices_Clone_Acct_ok, List.forall_mem_cons.2 ⟨R_lim_copied_ok, List.forall_mem_cons.2 ⟨R_slices_Clone_int64_ok, List.forall_mem_nil _⟩⟩⟩)⟩
theorem E_lim_Copy_local : SumsLocal E_lim_Copy.sums := sumsOf_local (List.forall_mem_cons.2 ⟨R_slices_Clone_Acct_local, List.forall_mem_cons.2 ⟨R_lim_copied_local, List.forall_mem_cons.2 ⟨R_slices_Clone_int64_local, List.forall_mem_nil _⟩⟩⟩)
def as_lim_Copy : List AS := [.agg [.dat false (.pair (.int .i64) (.pair (.int .i64) (.int .i64))), .dat true (.sl (.int .i64)), .dat false (.int .i64), .dat true (.sl (.int .i64))]]
def rs_lim_Copy : RS := .agg [.own (.pair (.int .i64) (.pair (.int .i64) (.int .i64))), .mat, .own (.int .i64), .mat]
def pk_lim_Copy : (List (Int × Int × Int)) × (List (List Int)) × (List Int) × (List (List Int)) → RL rs_lim_Copy.cells := fun x => (x.1, x.2.1, x.2.2.1, x.2.2.2, ())
def up_lim_Copy : RL rs_lim_Copy.cells → (List (Int × Int × Int)) × (List (List Int)) × (List Int) × (List (List Int)) := fun d => (d.1, d.2.1, d.2.2.1, d.2.2.2.1)
def R_lim_Copy : Nat × Entry := (27, fun k nm args h => entry as_lim_Copy rs_lim_Copy (fun d => lim_Copy k d.1 d.2.1 d.2.2.1 d.2.2.2.1) pk_lim_Copy nm args h)
theorem lim_Copy_ev (k : Nat) (d : AD as_lim_Copy) : evF E_lim_Copy A_lim_Copy k 1000 0 Proofs.Try.f27 (absArgs as_lim_Copy d).1 (absArgs as_lim_Copy d).2 (outM rs_lim_Copy up_lim_Copy) = lim_Copy k d.1 d.2.1 d.2.2.1 d.2.2.2.1 := by
  obtain ⟨_, _, _, _, _⟩ := d
  kernel_rfl
theorem R_lim_Copy_ok : EntryOK Proofs.Try.prog R_lim_Copy := fun k _ _ _ _ _ hy =>
  entry_sound (unpack := up_lim_Copy) (A := A_lim_Copy) (k := k) (pre := 1000) (na := 0) (E := E_lim_Copy) E_lim_Copy_ok E_lim_Copy_local mixed_orders (f := 27) (fn := Proofs.Try.f27) (by kernel_rfl) (body_loops (loopsOK_none (by kernel_rfl))) (enters (fn := Proofs.Try.f27) (by kernel_rfl) (by kernel_rfl) (by kernel_rfl)) (fun _ => rfl) (lim_Copy_ev k) hy
theorem R_lim_Copy_local : EntryLocal R_lim_Copy.2 := entry_local (S := fun k (d : AD as_lim_Copy) => lim_Copy k d.1 d.2.1 d.2.2.1 d.2.2.2.1)

/-! ### giro/acct.Kept -/
noncomputable def E_acct_Kept : Env := ⟨Proofs.Try.prog, fun _ => false, sumsOf []⟩
def A_acct_Kept : Notes := ⟨[], []⟩
theorem E_acct_Kept_ok : EnvOK E_acct_Kept := ⟨eqOK_none, sumsOf_ok (List.forall_mem_nil _)⟩
theorem E_acct_Kept_local : SumsLocal E_acct_Kept.sums := sumsOf_local (List.forall_mem_nil _)
def as_acct_Kept : List AS := [.agg [.int .i64, .int .i64, .int .i64], .c (.int .i64)]
def rs_acct_Kept : RS := .c (.int .i64)
def pk_acct_Kept : Int → RL rs_acct_Kept.cells := fun x => (x, ())
def up_acct_Kept : RL rs_acct_Kept.cells → Int := fun d => d.1
def R_acct_Kept : Nat × Entry := (28, fun k nm args h => entry as_acct_Kept rs_acct_Kept (fun d => acct_Kept k d.1 d.2.1 d.2.2.1 d.2.2.2.1) pk_acct_Kept nm args h)
theorem acct_Kept_ev (k : Nat) (d : AD as_acct_Kept) : evF E_acct_Kept A_acct_Kept k 1000 0 Proofs.Try.f28 (absArgs as_acct_Kept d).1 (absArgs as_acct_Kept d).2 (outM rs_acct_Kept up_acct_Kept) = acct_Kept k d.1 d.2.1 d.2.2.1 d.2.2.2.1 := by
  obtain ⟨_, _, _, _, _⟩ := d
  kernel_rfl
theorem R_acct_Kept_ok : EntryOK Proofs.Try.prog R_acct_Kept := fun k _ _ _ _ _ hy =>
  entry_sound (unpack := up_acct_Kept) (A := A_acct_Kept) (k := k) (pre := 1000) (na := 0) (E := E_acct_Kept) E_acct_Kept_ok E_acct_Kept_local mixed_orders (f := 28) (fn := Proofs.Try.f28) (by kernel_rfl) (body_loops (loopsOK_none (by kernel_rfl))) (enters (fn := Proofs.Try.f28) (by kernel_rfl) (by kernel_rfl) (by kernel_rfl)) (fun _ => rfl) (acct_Kept_ev k) hy
theorem R_acct_Kept_local : EntryLocal R_acct_Kept.2 := entry_local (S := fun k (d : AD as_acct_Kept) => acct_Kept k d.1 d.2.1 d.2.2.1 d.2.2.2.1)

/-! ### giro/acct.Is -/
noncomputable def E_acct_Is : Env := ⟨Proofs.Try.prog, fun _ => false, sumsOf []⟩
def A_acct_Is : Notes := ⟨[], []⟩
theorem E_acct_Is_ok : EnvOK E_acct_Is := ⟨eqOK_none, sumsOf_ok (List.forall_mem_nil _)⟩
theorem E_acct_Is_local : SumsLocal E_acct_Is.sums := sumsOf_local (List.forall_mem_nil _)
def as_acct_Is : List AS := [.agg [.int .i64, .int .i64, .int .i64]]
def rs_acct_Is : RS := .c (.bool)
def pk_acct_Is : Bool → RL rs_acct_Is.cells := fun x => (x, ())
def up_acct_Is : RL rs_acct_Is.cells → Bool := fun d => d.1
def R_acct_Is : Nat × Entry := (44, fun k nm args h => entry as_acct_Is rs_acct_Is (fun d => acct_Is k d.1 d.2.1 d.2.2.1) pk_acct_Is nm args h)
theorem acct_Is_ev (k : Nat) (d : AD as_acct_Is) : evF E_acct_Is A_acct_Is k 1000 0 Proofs.Try.f44 (absArgs as_acct_Is d).1 (absArgs as_acct_Is d).2 (outM rs_acct_Is up_acct_Is) = acct_Is k d.1 d.2.1 d.2.2.1 := by
  obtain ⟨_, _, _, _⟩ := d
  kernel_rfl
theorem R_acct_Is_ok : EntryOK Proofs.Try.prog R_acct_Is := fun k _ _ _ _ _ hy =>
  entry_sound (unpack := up_acct_Is) (A := A_acct_Is) (k := k) (pre := 1000) (na := 0) (E := E_acct_Is) E_acct_Is_ok E_acct_Is_local mixed_orders (f := 44) (fn := Proofs.Try.f44) (by kernel_rfl) (body_loops (loopsOK_none (by kernel_rfl))) (enters (fn := Proofs.Try.f44) (by kernel_rfl) (by kernel_rfl) (by kernel_rfl)) (fun _ => rfl) (acct_Is_ev k) hy
theorem R_acct_Is_local : EntryLocal R_acct_Is.2 := entry_local (S := fun k (d : AD as_acct_Is) => acct_Is k d.1 d.2.1 d.2.2.1)

/-! ### giro/lim.Is$1 -/
noncomputable def E_lim_Is_fn1 : Env := ⟨Proofs.Try.prog, fun _ => false, sumsOf [R_acct_Is]⟩
def A_lim_Is_fn1 : Notes := ⟨[], []⟩
theorem E_lim_Is_fn1_ok : EnvOK E_lim_Is_fn1 := ⟨eqOK_none, sumsOf_ok (List.forall_mem_cons.2 ⟨R_acct_Is_ok, List.forall_mem_nil _⟩)⟩
theorem E_lim_Is_fn1_local : SumsLocal E_lim_Is_fn1.sums := sumsOf_local (List.forall_mem_cons.2 ⟨R_acct_Is_local, List.forall_mem_nil _⟩)
def as_lim_Is_fn1 : List AS := [.agg [.int .i64, .int .i64, .int .i64]]
def rs_lim_Is_fn1 : RS := .c (.bool)
def pk_lim_Is_fn1 : Bool → RL rs_lim_Is_fn1.cells := fun x => (x, ())
def up_lim_Is_fn1 : RL rs_lim_Is_fn1.cells → Bool := fun d => d.1
def R_lim_Is_fn1 : Nat × Entry := (43, fun k nm args h => entry as_lim_Is_fn1 rs_lim_Is_fn1 (fun d => lim_Is_fn1 k d.1 d.2.1 d.2.2.1) pk_lim_Is_fn1 nm args h)
theorem lim_Is_fn1_ev (k : Nat) (d : AD as_lim_Is_fn1) : evF E_lim_Is_fn1 A_lim_Is_fn1 k 1000 0 Proofs.Try.f43 (absArgs as_lim_Is_fn1 d).1 (absArgs as_lim_Is_fn1 d).2 (outM rs_lim_Is_fn1 up_lim_Is_fn1) = lim_Is_fn1 k d.1 d.2.1 d.2.2.1 := by
  obtain ⟨_, _, _, _⟩ := d
  kernel_rfl
theorem R_lim_Is_fn1_ok : EntryOK Proofs.Try.prog R_lim_Is_fn1 := fun k _ _ _ _ _ hy =>
  entry_sound (unpack := up_lim_Is_fn1) (A := A_lim_Is_fn1) (k := k) (pre := 1000) (na := 0) (E := E_lim_Is_fn1) E_lim_Is_fn1_ok E_lim_Is_fn1_local mixed_orders (f := 43) (fn := Proofs.Try.f43) (by kernel_rfl) (body_loops (loopsOK_none (by kernel_rfl))) (enters (fn := Proofs.Try.f43) (by kernel_rfl) (by kernel_rfl) (by kernel_rfl)) (fun _ => rfl) (lim_Is_fn1_ev k) hy
theorem R_lim_Is_fn1_local : EntryLocal R_lim_Is_fn1.2 := entry_local (S := fun k (d : AD as_lim_Is_fn1) => lim_Is_fn1 k d.1 d.2.1 d.2.2.1)

/-! ### slices.IndexFunc[[]giro/api.Acct,giro/api.Acct] -/
noncomputable def E_slices_IndexFunc_Acct__lim_Is_fn1 : Env := ⟨Proofs.Try.prog, fun _ => false, sumsOf [R_lim_Is_fn1]⟩
def I_slices_IndexFunc_Acct__lim_Is_fn1_L0 : Spec := ⟨[(0, .c (.dat false (.pair (.int .i64) (.pair (.int .i64) (.int .i64))))), (1, .c (.lit (.fn 43 []))), (7, .c (.int .i64)), (8, .c (.int .i64))], [], []⟩
def O_slices_IndexFunc_Acct__lim_Is_fn1_L0 : List (Ex × Spec) := [(.exit 0, ⟨[], [], []⟩), (.ret, ⟨[(4, .c (.int .i64))], [], []⟩)]
def T_slices_IndexFunc_Acct__lim_Is_fn1_L0 : OutD O_slices_IndexFunc_Acct__lim_Is_fn1_L0 → Unit ⊕ Int
 | .inl d => .inl ()
 | .inr d => .inr d.1.1.1
def e_slices_IndexFunc_Acct__lim_Is_fn1_L0 (base : Nat) (x : Unit ⊕ Int) (R : Type) (K : Ex → St → Option R) : Option R := match x with
 | .inl x => K (.exit 0) (stOf base ⟨[], [], []⟩ ((), ()))
 | .inr x => K .ret (stOf base ⟨[(4, .c (.int .i64))], [], []⟩ (((x, ()), ()), ()))
def L_slices_IndexFunc_Acct__lim_Is_fn1_L0 : LoopSum := ⟨I_slices_IndexFunc_Acct__lim_Is_fn1_L0, O_slices_IndexFunc_Acct__lim_Is_fn1_L0, Unit ⊕ Int, fun k d => slices_IndexFunc_Acct__lim_Is_fn1_L0 k k d.1.1.1 d.1.2.2.1.1 d.1.2.2.2.1.1, e_slices_IndexFunc_Acct__lim_Is_fn1_L0⟩
def A_slices_IndexFunc_Acct__lim_Is_fn1 : Notes := ⟨[], [(2, L_slices_IndexFunc_Acct__lim_Is_fn1_L0)]⟩
theorem E_slices_IndexFunc_Acct__lim_Is_fn1_ok : EnvOK E_slices_IndexFunc_Acct__lim_Is_fn1 := ⟨eqOK_none, sumsOf_ok (List.forall_mem_cons.2 ⟨R_lim_Is_fn1_ok, List.forall_mem_nil _⟩)⟩
theorem E_slices_IndexFunc_Acct__lim_Is_fn1_local : SumsLocal E_slices_IndexFunc_Acct__lim_Is_fn1.sums := sumsOf_local (List.forall_mem_cons.2 ⟨R_lim_Is_fn1_local, List.forall_mem_nil _⟩)
theorem slices_IndexFunc_Acct__lim_Is_fn1_L0_step (k : Nat) (rec : List (Int × Int × Int) → Int → Int → Option (Unit ⊕ Int)) (d : I_slices_IndexFunc_Acct__lim_Is_fn1_L0.den) : slices_IndexFunc_Acct__lim_Is_fn1_L0b k rec d.1.1.1 d.1.2.2.1.1 d.1.2.2.2.1.1 = evC E_slices_IndexFunc_Acct__lim_Is_fn1 A_slices_IndexFunc_Acct__lim_Is_fn1 k 1000 0 19 (loopAt (bodyOf Proofs.Try.f59) 0) (stOf (1000 + loopBase) I_slices_IndexFunc_Acct__lim_Is_fn1_L0 d) (roundK 1000 I_slices_IndexFunc_Acct__lim_Is_fn1_L0 O_slices_IndexFunc_Acct__lim_Is_fn1_L0 T_slices_IndexFunc_Acct__lim_Is_fn1_L0 fun d => rec d.1.1.1 d.1.2.2.1.1 d.1.2.2.2.1.1) := by
  obtain ⟨⟨⟨_, _⟩, _, ⟨_, _⟩, ⟨_, _⟩, _⟩, _⟩ := d
  kernel_rfl
theorem slices_IndexFunc_Acct__lim_Is_fn1_L0_ok : LoopOK Proofs.Try.prog 1000 0 19 (loopAt (bodyOf Proofs.Try.f59) 0) L_slices_IndexFunc_Acct__lim_Is_fn1_L0 :=
  loop_sound (A := A_slices_IndexFunc_Acct__lim_Is_fn1) (inS := I_slices_IndexFunc_Acct__lim_Is_fn1_L0) (outs := O_slices_IndexFunc_Acct__lim_Is_fn1_L0) E_slices_IndexFunc_Acct__lim_Is_fn1_ok E_slices_IndexFunc_Acct__lim_Is_fn1_local mixed_orders (loopsOK_none (by kernel_rfl)) T_slices_IndexFunc_Acct__lim_Is_fn1_L0 e_slices_IndexFunc_Acct__lim_Is_fn1_L0 (by intro o R K; rcases o with o | o <;> rfl) (fun k n d => slices_IndexFunc_Acct__lim_Is_fn1_L0 k n d.1.1.1 d.1.2.2.1.1 d.1.2.2.2.1.1) (fun _ _ => rfl) (fun k n d => slices_IndexFunc_Acct__lim_Is_fn1_L0_step k (slices_IndexFunc_Acct__lim_Is_fn1_L0 k n) d)
def as_slices_IndexFunc_Acct__lim_Is_fn1 : List AS := [.c (.dat false (.pair (.int .i64) (.pair (.int .i64) (.int .i64)))), .c (.fn 43)]
def rs_slices_IndexFunc_Acct__lim_Is_fn1 : RS := .c (.int .i64)
def pk_slices_IndexFunc_Acct__lim_Is_fn1 : Int → RL rs_slices_IndexFunc_Acct__lim_Is_fn1.cells := fun x => (x, ())
def up_slices_IndexFunc_Acct__lim_Is_fn1 : RL rs_slices_IndexFunc_Acct__lim_Is_fn1.cells → Int := fun d => d.1
def R_slices_IndexFunc_Acct__lim_Is_fn1 : Nat × Entry := (59, fun k nm args h => entry as_slices_IndexFunc_Acct__lim_Is_fn1 rs_slices_IndexFunc_Acct__lim_Is_fn1 (fun d => slices_IndexFunc_Acct__lim_Is_fn1 k d.1) pk_slices_IndexFunc_Acct__lim_Is_fn1 nm args h)
theorem slices_IndexFunc_Acct__lim_Is_fn1_ev (k : Nat) (d : AD as_slices_IndexFunc_Acct__lim_Is_fn1) : evF E_slices_IndexFunc_Acct__lim_Is_fn1 A_slices_IndexFunc_Acct__lim_Is_fn1 k 1000 0 Proofs.Try.f59 (absArgs as_slices_IndexFunc_Acct__lim_Is_fn1 d).1 (absArgs as_slices_IndexFunc_Acct__lim_Is_fn1 d).2 (outM rs_slices_IndexFunc_Acct__lim_Is_fn1 up_slices_IndexFunc_Acct__lim_Is_fn1) = slices_IndexFunc_Acct__lim_Is_fn1 k d.1 := by
  obtain ⟨_, _, _⟩ := d
  kernel_rfl
theorem R_slices_IndexFunc_Acct__lim_Is_fn1_ok : EntryOK Proofs.Try.prog R_slices_IndexFunc_Acct__lim_Is_fn1 := fun k _ _ _ _ _ hy =>
  entry_sound (unpack := up_slices_IndexFunc_Acct__lim_Is_fn1) (A := A_slices_IndexFunc_Acct__lim_Is_fn1) (k := k) (pre := 1000) (na := 0) (E := E_slices_IndexFunc_Acct__lim_Is_fn1) E_slices_IndexFunc_Acct__lim_Is_fn1_ok E_slices_IndexFunc_Acct__lim_Is_fn1_local mixed_orders (f := 59) (fn := Proofs.Try.f59) (by kernel_rfl) (body_loops (loopsOK_of (n := 1) (by kernel_rfl) fun i hi => match i, hi with | 0, _ => ⟨L_slices_IndexFunc_Acct__lim_Is_fn1_L0, by kernel_rfl, slices_IndexFunc_Acct__lim_Is_fn1_L0_ok⟩ | i + 1, hi => absurd hi (by omega))) (enters (fn := Proofs.Try.f59) (by kernel_rfl) (by kernel_rfl) (by kernel_rfl)) (fun _ => rfl) (slices_IndexFunc_Acct__lim_Is_fn1_ev k) hy
theorem R_slices_IndexFunc_Acct__lim_Is_fn1_local : EntryLocal R_slices_IndexFunc_Acct__lim_Is_fn1.2 := entry_local (S := fun k (d : AD as_slices_IndexFunc_Acct__lim_Is_fn1) => slices_IndexFunc_Acct__lim_Is_fn1 k d.1)

/-! ### slices.ContainsFunc[[]giro/api.Acct,giro/api.Acct] -/
noncomputable def E_slices_ContainsFunc_Acct__lim_Is_fn1 : Env := ⟨Proofs.Try.prog, fun _ => false, sumsOf [R_slices_IndexFunc_Acct__lim_Is_fn1]⟩
def A_slices_ContainsFunc_Acct__lim_Is_fn1 : Notes := ⟨[], []⟩
theorem E_slices_ContainsFunc_Acct__lim_Is_fn1_ok : EnvOK E_slices_ContainsFunc_Acct__lim_Is_fn1 := ⟨eqOK_none, sumsOf_ok (List.forall_mem_cons.2 ⟨R_slices_IndexFunc_Acct__lim_Is_fn1_ok, List.forall_mem_nil _⟩)⟩
theorem E_slices_ContainsFunc_Acct__lim_Is_fn1_local : SumsLocal E_slices_ContainsFunc_Acct__lim_Is_fn1.sums := sumsOf_local (List.forall_mem_cons.2 ⟨R_slices_IndexFunc_Acct__lim_Is_fn1_local, List.forall_mem_nil _⟩)
def as_slices_ContainsFunc_Acct__lim_Is_fn1 : List AS := [.c (.dat false (.pair (.int .i64) (.pair (.int .i64) (.int .i64)))), .c (.fn 43)]
def rs_slices_ContainsFunc_Acct__lim_Is_fn1 : RS := .c (.bool)
def pk_slices_ContainsFunc_Acct__lim_Is_fn1 : Bool → RL rs_slices_ContainsFunc_Acct__lim_Is_fn1.cells := fun x => (x, ())
def up_slices_ContainsFunc_Acct__lim_Is_fn1 : RL rs_slices_ContainsFunc_Acct__lim_Is_fn1.cells → Bool := fun d => d.1
def R_slices_ContainsFunc_Acct__lim_Is_fn1 : Nat × Entry := (45, fun k nm args h => entry as_slices_ContainsFunc_Acct__lim_Is_fn1 rs_slices_ContainsFunc_Acct__lim_Is_fn1 (fun d => slices_ContainsFunc_Acct__lim_Is_fn1 k d.1) pk_slices_ContainsFunc_Acct__lim_Is_fn1 nm args h)
theorem slices_ContainsFunc_Acct__lim_Is_fn1_ev (k : Nat) (d : AD as_slices_ContainsFunc_Acct__lim_Is_fn1) : evF E_slices_ContainsFunc_Acct__lim_Is_fn1 A_slices_ContainsFunc_Acct__lim_Is_fn1 k 1000 0 Proofs.Try.f45 (absArgs as_slices_ContainsFunc_Acct__lim_Is_fn1 d).1 (absArgs as_slices_ContainsFunc_Acct__lim_Is_fn1 d).2 (outM rs_slices_ContainsFunc_Acct__lim_Is_fn1 up_slices_ContainsFunc_Acct__lim_Is_fn1) = slices_ContainsFunc_Acct__lim_Is_fn1 k d.1 := by
  obtain ⟨_, _, _⟩ := d
  kernel_rfl
theorem R_slices_ContainsFunc_Acct__lim_Is_fn1_ok : EntryOK Proofs.Try.prog R_slices_ContainsFunc_Acct__lim_Is_fn1 := fun k _ _ _ _ _ hy =>
  entry_sound (unpack := up_slices_ContainsFunc_Acct__lim_Is_fn1) (A := A_slices_ContainsFunc_Acct__lim_Is_fn1) (k := k) (pre := 1000) (na := 0) (E := E_slices_ContainsFunc_Acct__lim_Is_fn1) E_slices_ContainsFunc_Acct__lim_Is_fn1_ok E_slices_ContainsFunc_Acct__lim_Is_fn1_local mixed_orders (f := 45) (fn := Proofs.Try.f45) (by kernel_rfl) (body_loops (loopsOK_none (by kernel_rfl))) (enters (fn := Proofs.Try.f45) (by kernel_rfl) (by kernel_rfl) (by kernel_rfl)) (fun _ => rfl) (slices_ContainsFunc_Acct__lim_Is_fn1_ev k) hy
theorem R_slices_ContainsFunc_Acct__lim_Is_fn1_local : EntryLocal R_slices_ContainsFunc_Acct__lim_Is_fn1.2 := entry_local (S := fun k (d : AD as_slices_ContainsFunc_Acct__lim_Is_fn1) => slices_ContainsFunc_Acct__lim_Is_fn1 k d.1)

/-! ### giro/lim.isLimit -/
noncomputable def E_lim_isLimit : Env := ⟨Proofs.Try.prog, fun _ => false, sumsOf []⟩
def A_lim_isLimit : Notes := ⟨[], []⟩
theorem E_lim_isLimit_ok : EnvOK E_lim_isLimit := ⟨eqOK_none, sumsOf_ok (List.forall_mem_nil _)⟩
theorem E_lim_isLimit_local : SumsLocal E_lim_isLimit.sums := sumsOf_local (List.forall_mem_nil _)
def as_lim_isLimit : List AS := [.c (.int .i64)]
def rs_lim_isLimit : RS := .c (.bool)
def pk_lim_isLimit : Bool → RL rs_lim_isLimit.cells := fun x => (x, ())
def up_lim_isLimit : RL rs_lim_isLimit.cells → Bool := fun d => d.1
def R_lim_isLimit : Nat × Entry := (47, fun k nm args h => entry as_lim_isLimit rs_lim_isLimit (fun d => lim_isLimit k d.1) pk_lim_isLimit nm args h)
theorem lim_isLimit_ev (k : Nat) (d : AD as_lim_isLimit) : evF E_lim_isLimit A_lim_isLimit k 1000 0 Proofs.Try.f47 (absArgs as_lim_isLimit d).1 (absArgs as_lim_isLimit d).2 (outM rs_lim_isLimit up_lim_isLimit) = lim_isLimit k d.1 := by
  obtain ⟨_, _⟩ := d
  kernel_rfl
theorem R_lim_isLimit_ok : EntryOK Proofs.Try.prog R_lim_isLimit := fun k _ _ _ _ _ hy =>
  entry_sound (unpack := up_lim_isLimit) (A := A_lim_isLimit) (k := k) (pre := 1000) (na := 0) (E := E_lim_isLimit) E_lim_isLimit_ok E_lim_isLimit_local mixed_orders (f := 47) (fn := Proofs.Try.f47) (by kernel_rfl) (body_loops (loopsOK_none (by kernel_rfl))) (enters (fn := Proofs.Try.f47) (by kernel_rfl) (by kernel_rfl) (by kernel_rfl)) (fun _ => rfl) (lim_isLimit_ev k) hy
theorem R_lim_isLimit_local : EntryLocal R_lim_isLimit.2 := entry_local (S := fun k (d : AD as_lim_isLimit) => lim_isLimit k d.1)

/-! ### giro/lim.isRow$1 -/
noncomputable def E_lim_isRow_fn1__lim_isLimit : Env := ⟨Proofs.Try.prog, fun _ => false, sumsOf [R_lim_isLimit]⟩
def A_lim_isRow_fn1__lim_isLimit : Notes := ⟨[], []⟩
theorem E_lim_isRow_fn1__lim_isLimit_ok : EnvOK E_lim_isRow_fn1__lim_isLimit := ⟨eqOK_none, sumsOf_ok (List.forall_mem_cons.2 ⟨R_lim_isLimit_ok, List.forall_mem_nil _⟩)⟩
theorem E_lim_isRow_fn1__lim_isLimit_local : SumsLocal E_lim_isRow_fn1__lim_isLimit.sums := sumsOf_local (List.forall_mem_cons.2 ⟨R_lim_isLimit_local, List.forall_mem_nil _⟩)
def as_lim_isRow_fn1__lim_isLimit : List AS := [.c (.int .i64), .ptr [.fn 47]]
def rs_lim_isRow_fn1__lim_isLimit : RS := .c (.bool)
def pk_lim_isRow_fn1__lim_isLimit : Bool → RL rs_lim_isRow_fn1__lim_isLimit.cells := fun x => (x, ())
def up_lim_isRow_fn1__lim_isLimit : RL rs_lim_isRow_fn1__lim_isLimit.cells → Bool := fun d => d.1
def R_lim_isRow_fn1__lim_isLimit : Nat × Entry := (61, fun k nm args h => entry as_lim_isRow_fn1__lim_isLimit rs_lim_isRow_fn1__lim_isLimit (fun d => lim_isRow_fn1__lim_isLimit k d.1) pk_lim_isRow_fn1__lim_isLimit nm args h)
theorem lim_isRow_fn1__lim_isLimit_ev (k : Nat) (d : AD as_lim_isRow_fn1__lim_isLimit) : evF E_lim_isRow_fn1__lim_isLimit A_lim_isRow_fn1__lim_isLimit k 1000 0 Proofs.Try.f61 (absArgs as_lim_isRow_fn1__lim_isLimit d).1 (absArgs as_lim_isRow_fn1__lim_isLimit d).2 (outM rs_lim_isRow_fn1__lim_isLimit up_lim_isRow_fn1__lim_isLimit) = lim_isRow_fn1__lim_isLimit k d.1 := by
  obtain ⟨_, _, _⟩ := d
  kernel_rfl
theorem R_lim_isRow_fn1__lim_isLimit_ok : EntryOK Proofs.Try.prog R_lim_isRow_fn1__lim_isLimit := fun k _ _ _ _ _ hy =>
  entry_sound (unpack := up_lim_isRow_fn1__lim_isLimit) (A := A_lim_isRow_fn1__lim_isLimit) (k := k) (pre := 1000) (na := 0) (E := E_lim_isRow_fn1__lim_isLimit) E_lim_isRow_fn1__lim_isLimit_ok E_lim_isRow_fn1__lim_isLimit_local mixed_orders (f := 61) (fn := Proofs.Try.f61) (by kernel_rfl) (body_loops (loopsOK_none (by kernel_rfl))) (enters (fn := Proofs.Try.f61) (by kernel_rfl) (by kernel_rfl) (by kernel_rfl)) (fun _ => rfl) (lim_isRow_fn1__lim_isLimit_ev k) hy
theorem R_lim_isRow_fn1__lim_isLimit_local : EntryLocal R_lim_isRow_fn1__lim_isLimit.2 := entry_local (S := fun k (d : AD as_lim_isRow_fn1__lim_isLimit) => lim_isRow_fn1__lim_isLimit k d.1)

/-! ### slices.IndexFunc[[]int64,int64] -/
noncomputable def E_slices_IndexFunc_int64__lim_isRow_fn1__lim_isLimit : Env := ⟨Proofs.Try.prog, fun _ => false, sumsOf [R_lim_isRow_fn1__lim_isLimit]⟩
def I_slices_IndexFunc_int64__lim_isRow_fn1__lim_isLimit_L0 : Spec := ⟨[(0, .c (.dat false (.int .i64))), (1, .c (.lit (.fn 61 [1001000]))), (7, .c (.int .i64)), (8, .c (.int .i64))], [.robox [.lit (.fn 47 [])]], []⟩
def O_slices_IndexFunc_int64__lim_isRow_fn1__lim_isLimit_L0 : List (Ex × Spec) := [(.exit 0, ⟨[], [], []⟩), (.ret, ⟨[(4, .c (.int .i64))], [], []⟩)]
def T_slices_IndexFunc_int64__lim_isRow_fn1__lim_isLimit_L0 : OutD O_slices_IndexFunc_int64__lim_isRow_fn1__lim_isLimit_L0 → Unit ⊕ Int
 | .inl d => .inl ()
 | .inr d => .inr d.1.1.1
def e_slices_IndexFunc_int64__lim_isRow_fn1__lim_isLimit_L0 (base : Nat) (x : Unit ⊕ Int) (R : Type) (K : Ex → St → Option R) : Option R := match x with
 | .inl x => K (.exit 0) (stOf base ⟨[], [], []⟩ ((), ()))
 | .inr x => K .ret (stOf base ⟨[(4, .c (.int .i64))], [], []⟩ (((x, ()), ()), ()))
def L_slices_IndexFunc_int64__lim_isRow_fn1__lim_isLimit_L0 : LoopSum := ⟨I_slices_IndexFunc_int64__lim_isRow_fn1__lim_isLimit_L0, O_slices_IndexFunc_int64__lim_isRow_fn1__lim_isLimit_L0, Unit ⊕ Int, fun k d => slices_IndexFunc_int64__lim_isRow_fn1__lim_isLimit_L0 k k d.1.1.1 d.1.2.2.1.1 d.1.2.2.2.1.1, e_slices_IndexFunc_int64__lim_isRow_fn1__lim_isLimit_L0⟩
def A_slices_IndexFunc_int64__lim_isRow_fn1__lim_isLimit : Notes := ⟨[], [(2, L_slices_IndexFunc_int64__lim_isRow_fn1__lim_isLimit_L0)]⟩
theorem E_slices_IndexFunc_int64__lim_isRow_fn1__lim_isLimit_ok : EnvOK E_slices_IndexFunc_int64__lim_isRow_fn1__lim_isLimit := ⟨eqOK_none, sumsOf_ok (List.forall_mem_cons.2 ⟨R_lim_isRow_fn1__lim_isLimit_ok, List.forall_mem_nil _⟩)⟩
theorem E_slices_IndexFunc_int64__lim_isRow_fn1__lim_isLimit_local : SumsLocal E_slices_IndexFunc_int64__lim_isRow_fn1__lim_isLimit.sums := sumsOf_local (List.forall_mem_cons.2 ⟨R_lim_isRow_fn1__lim_isLimit_local, List.forall_mem_nil _⟩)
theorem slices_IndexFunc_int64__lim_isRow_fn1__lim_isLimit_L0_step (k : Nat) (rec : List Int → Int → Int → Option (Unit ⊕ Int)) (d : I_slices_IndexFunc_int64__lim_isRow_fn1__lim_isLimit_L0.den) : slices_IndexFunc_int64__lim_isRow_fn1__lim_isLimit_L0b k rec d.1.1.1 d.1.2.2.1.1 d.1.2.2.2.1.1 = evC E_slices_IndexFunc_int64__lim_isRow_fn1__lim_isLimit A_slices_IndexFunc_int64__lim_isRow_fn1__lim_isLimit k 1000 0 19 (loopAt (bodyOf Proofs.Try.f63) 0) (stOf (1000 + loopBase) I_slices_IndexFunc_int64__lim_isRow_fn1__lim_isLimit_L0 d) (roundK 1000 I_slices_IndexFunc_int64__lim_isRow_fn1__lim_isLimit_L0 O_slices_IndexFunc_int64__lim_isRow_fn1__lim_isLimit_L0 T_slices_IndexFunc_int64__lim_isRow_fn1__lim_isLimit_L0 fun d => rec d.1.1.1 d.1.2.2.1.1 d.1.2.2.2.1.1) := by
  obtain ⟨⟨⟨_, _⟩, _, ⟨_, _⟩, ⟨_, _⟩, _⟩, ⟨_, _⟩⟩ := d
  kernel_rfl
theorem slices_IndexFunc_int64__lim_isRow_fn1__lim_isLimit_L0_ok : LoopOK Proofs.Try.prog 1000 0 19 (loopAt (bodyOf Proofs.Try.f63) 0) L_slices_IndexFunc_int64__lim_isRow_fn1__lim_isLimit_L0 :=
  loop_sound (A := A_slices_IndexFunc_int64__lim_isRow_fn1__lim_isLimit) (inS := I_slices_IndexFunc_int64__lim_isRow_fn1__lim_isLimit_L0) (outs := O_slices_IndexFunc_int64__lim_isRow_fn1__lim_isLimit_L0) E_slices_IndexFunc_int64__lim_isRow_fn1__lim_isLimit_ok E_slices_IndexFunc_int64__lim_isRow_fn1__lim_isLimit_local mixed_orders (loopsOK_none (by kernel_rfl)) T_slices_IndexFunc_int64__lim_isRow_fn1__lim_isLimit_L0 e_slices_IndexFunc_int64__lim_isRow_fn1__lim_isLimit_L0 (by intro o R K; rcases o with o | o <;> rfl) (fun k n d => slices_IndexFunc_int64__lim_isRow_fn1__lim_isLimit_L0 k n d.1.1.1 d.1.2.2.1.1 d.1.2.2.2.1.1) (fun _ _ => rfl) (fun k n d => slices_IndexFunc_int64__lim_isRow_fn1__lim_isLimit_L0_step k (slices_IndexFunc_int64__lim_isRow_fn1__lim_isLimit_L0 k n) d)
def as_slices_IndexFunc_int64__lim_isRow_fn1__lim_isLimit : List AS := [.c (.dat false (.int .i64)), .fn 61 [[.fn 47]]]
def rs_slices_IndexFunc_int64__lim_isRow_fn1__lim_isLimit : RS := .c (.int .i64)
def pk_slices_IndexFunc_int64__lim_isRow_fn1__lim_isLimit : Int → RL rs_slices_IndexFunc_int64__lim_isRow_fn1__lim_isLimit.cells := fun x => (x, ())
def up_slices_IndexFunc_int64__lim_isRow_fn1__lim_isLimit : RL rs_slices_IndexFunc_int64__lim_isRow_fn1__lim_isLimit.cells → Int := fun d => d.1
def R_slices_IndexFunc_int64__lim_isRow_fn1__lim_isLimit : Nat × Entry := (63, fun k nm args h => entry as_slices_IndexFunc_int64__lim_isRow_fn1__lim_isLimit rs_slices_IndexFunc_int64__lim_isRow_fn1__lim_isLimit (fun d => slices_IndexFunc_int64__lim_isRow_fn1__lim_isLimit k d.1) pk_slices_IndexFunc_int64__lim_isRow_fn1__lim_isLimit nm args h)
theorem slices_IndexFunc_int64__lim_isRow_fn1__lim_isLimit_ev (k : Nat) (d : AD as_slices_IndexFunc_int64__lim_isRow_fn1__lim_isLimit) : evF E_slices_IndexFunc_int64__lim_isRow_fn1__lim_isLimit A_slices_IndexFunc_int64__lim_isRow_fn1__lim_isLimit k 1000 0 Proofs.Try.f63 (absArgs as_slices_IndexFunc_int64__lim_isRow_fn1__lim_isLimit d).1 (absArgs as_slices_IndexFunc_int64__lim_isRow_fn1__lim_isLimit d).2 (outM rs_slices_IndexFunc_int64__lim_isRow_fn1__lim_isLimit up_slices_IndexFunc_int64__lim_isRow_fn1__lim_isLimit) = slices_IndexFunc_int64__lim_isRow_fn1__lim_isLimit k d.1 := by
  obtain ⟨_, _, _⟩ := d
  kernel_rfl
theorem R_slices_IndexFunc_int64__lim_isRow_fn1__lim_isLimit_ok : EntryOK Proofs.Try.prog R_slices_IndexFunc_int64__lim_isRow_fn1__lim_isLimit := fun k _ _ _ _ _ hy =>
  entry_sound (unpack := up_slices_IndexFunc_int64__lim_isRow_fn1__lim_isLimit) (A := A_slices_IndexFunc_int64__lim_isRow_fn1__lim_isLimit) (k := k) (pre := 1000) (na := 0) (E := E_slices_IndexFunc_int64__lim_isRow_fn1__lim_isLimit) E_slices_IndexFunc_int64__lim_isRow_fn1__lim_isLimit_ok E_slices_IndexFunc_int64__lim_isRow_fn1__lim_isLimit_local mixed_orders (f := 63) (fn := Proofs.Try.f63) (by kernel_rfl) (body_loops (loopsOK_of (n := 1) (by kernel_rfl) fun i hi => match i, hi with | 0, _ => ⟨L_slices_IndexFunc_int64__lim_isRow_fn1__lim_isLimit_L0, by kernel_rfl, slices_IndexFunc_int64__lim_isRow_fn1__lim_isLimit_L0_ok⟩ | i + 1, hi => absurd hi (by omega))) (enters (fn := Proofs.Try.f63) (by kernel_rfl) (by kernel_rfl) (by kernel_rfl)) (fun _ => rfl) (slices_IndexFunc_int64__lim_isRow_fn1__lim_isLimit_ev k) hy
theorem R_slices_IndexFunc_int64__lim_isRow_fn1__lim_isLimit_local : EntryLocal R_slices_IndexFunc_int64__lim_isRow_fn1__lim_isLimit.2 := entry_local (S := fun k (d : AD as_slices_IndexFunc_int64__lim_isRow_fn1__lim_isLimit) => slices_IndexFunc_int64__lim_isRow_fn1__lim_isLimit k d.1)

/-! ### slices.ContainsFunc[[]int64,int64] -/
noncomputable def E_slices_ContainsFunc_int64__lim_isRow_fn1__lim_isLimit : Env := ⟨Proofs.Try.prog, fun _ => false, sumsOf [R_slices_IndexFunc_int64__lim_isRow_fn1__lim_isLimit]⟩
def A_slices_ContainsFunc_int64__lim_isRow_fn1__lim_isLimit : Notes := ⟨[], []⟩
theorem E_slices_ContainsFunc_int64__lim_isRow_fn1__lim_isLimit_ok : EnvOK E_slices_ContainsFunc_int64__lim_isRow_fn1__lim_isLimit := ⟨eqOK_none, sumsOf_ok (List.forall_mem_cons.2 ⟨R_slices_IndexFunc_int64__lim_isRow_fn1__lim_isLimit_ok, List.forall_mem_nil _⟩)⟩
theorem E_slices_ContainsFunc_int64__lim_isRow_fn1__lim_isLimit_local : SumsLocal E_slices_ContainsFunc_int64__lim_isRow_fn1__lim_isLimit.sums := sumsOf_local (List.forall_mem_cons.2 ⟨R_slices_IndexFunc_int64__lim_isRow_fn1__lim_isLimit_local, List.forall_mem_nil _⟩)
def as_slices_ContainsFunc_int64__lim_isRow_fn1__lim_isLimit : List AS := [.c (.dat false (.int .i64)), .fn 61 [[.fn 47]]]
def rs_slices_ContainsFunc_int64__lim_isRow_fn1__lim_isLimit : RS := .c (.bool)
def pk_slices_ContainsFunc_int64__lim_isRow_fn1__lim_isLimit : Bool → RL rs_slices_ContainsFunc_int64__lim_isRow_fn1__lim_isLimit.cells := fun x => (x, ())
def up_slices_ContainsFunc_int64__lim_isRow_fn1__lim_isLimit : RL rs_slices_ContainsFunc_int64__lim_isRow_fn1__lim_isLimit.cells → Bool := fun d => d.1
def R_slices_ContainsFunc_int64__lim_isRow_fn1__lim_isLimit : Nat × Entry := (60, fun k nm args h => entry as_slices_ContainsFunc_int64__lim_isRow_fn1__lim_isLimit rs_slices_ContainsFunc_int64__lim_isRow_fn1__lim_isLimit (fun d => slices_ContainsFunc_int64__lim_isRow_fn1__lim_isLimit k d.1) pk_slices_ContainsFunc_int64__lim_isRow_fn1__lim_isLimit nm args h)
theorem slices_ContainsFunc_int64__lim_isRow_fn1__lim_isLimit_ev (k : Nat) (d : AD as_slices_ContainsFunc_int64__lim_isRow_fn1__lim_isLimit) : evF E_slices_ContainsFunc_int64__lim_isRow_fn1__lim_isLimit A_slices_ContainsFunc_int64__lim_isRow_fn1__lim_isLimit k 1000 0 Proofs.Try.f60 (absArgs as_slices_ContainsFunc_int64__lim_isRow_fn1__lim_isLimit d).1 (absArgs as_slices_ContainsFunc_int64__lim_isRow_fn1__lim_isLimit d).2 (outM rs_slices_ContainsFunc_int64__lim_isRow_fn1__lim_isLimit up_slices_ContainsFunc_int64__lim_isRow_fn1__lim_isLimit) = slices_ContainsFunc_int64__lim_isRow_fn1__lim_isLimit k d.1 := by
  obtain ⟨_, _, _⟩ := d
  kernel_rfl
theorem R_slices_ContainsFunc_int64__lim_isRow_fn1__lim_isLimit_ok : EntryOK Proofs.Try.prog R_slices_ContainsFunc_int64__lim_isRow_fn1__lim_isLimit := fun k _ _ _ _ _ hy =>
  entry_sound (unpack := up_slices_ContainsFunc_int64__lim_isRow_fn1__lim_isLimit) (A := A_slices_ContainsFunc_int64__lim_isRow_fn1__lim_isLimit) (k := k) (pre := 1000) (na := 0) (E := E_slices_ContainsFunc_int64__lim_isRow_fn1__lim_isLimit) E_slices_ContainsFunc_int64__lim_isRow_fn1__lim_isLimit_ok E_slices_ContainsFunc_int64__lim_isRow_fn1__lim_isLimit_local mixed_orders (f := 60) (fn := Proofs.Try.f60) (by kernel_rfl) (body_loops (loopsOK_none (by kernel_rfl))) (enters (fn := Proofs.Try.f60) (by kernel_rfl) (by kernel_rfl) (by kernel_rfl)) (fun _ => rfl) (slices_ContainsFunc_int64__lim_isRow_fn1__lim_isLimit_ev k) hy
theorem R_slices_ContainsFunc_int64__lim_isRow_fn1__lim_isLimit_local : EntryLocal R_slices_ContainsFunc_int64__lim_isRow_fn1__lim_isLimit.2 := entry_local (S := fun k (d : AD as_slices_ContainsFunc_int64__lim_isRow_fn1__lim_isLimit) => slices_ContainsFunc_int64__lim_isRow_fn1__lim_isLimit k d.1)

/-! ### giro/lim.isRow -/
noncomputable def E_lim_isRow__lim_isLimit : Env := ⟨Proofs.Try.prog, fun _ => false, sumsOf [R_slices_ContainsFunc_int64__lim_isRow_fn1__lim_isLimit]⟩
def A_lim_isRow__lim_isLimit : Notes := ⟨[], []⟩
theorem E_lim_isRow__lim_isLimit_ok : EnvOK E_lim_isRow__lim_isLimit := ⟨eqOK_none, sumsOf_ok (List.forall_mem_cons.2 ⟨R_slices_ContainsFunc_int64__lim_isRow_fn1__lim_isLimit_ok, List.forall_mem_nil _⟩)⟩
theorem E_lim_isRow__lim_isLimit_local : SumsLocal E_lim_isRow__lim_isLimit.sums := sumsOf_local (List.forall_mem_cons.2 ⟨R_slices_ContainsFunc_int64__lim_isRow_fn1__lim_isLimit_local, List.forall_mem_nil _⟩)
def as_lim_isRow__lim_isLimit : List AS := [.c (.dat false (.int .i64)), .c (.int .i64), .c (.fn 47)]
def rs_lim_isRow__lim_isLimit : RS := .c (.bool)
def pk_lim_isRow__lim_isLimit : Bool → RL rs_lim_isRow__lim_isLimit.cells := fun x => (x, ())
def up_lim_isRow__lim_isLimit : RL rs_lim_isRow__lim_isLimit.cells → Bool := fun d => d.1
def R_lim_isRow__lim_isLimit : Nat × Entry := (48, fun k nm args h => entry as_lim_isRow__lim_isLimit rs_lim_isRow__lim_isLimit (fun d => lim_isRow__lim_isLimit k d.1 d.2.1) pk_lim_isRow__lim_isLimit nm args h)
theorem lim_isRow__lim_isLimit_ev (k : Nat) (d : AD as_lim_isRow__lim_isLimit) : evF E_lim_isRow__lim_isLimit A_lim_isRow__lim_isLimit k 1000 0 Proofs.Try.f48 (absArgs as_lim_isRow__lim_isLimit d).1 (absArgs as_lim_isRow__lim_isLimit d).2 (outM rs_lim_isRow__lim_isLimit up_lim_isRow__lim_isLimit) = lim_isRow__lim_isLimit k d.1 d.2.1 := by
  obtain ⟨_, _, _, _⟩ := d
  kernel_rfl
theorem R_lim_isRow__lim_isLimit_ok : EntryOK Proofs.Try.prog R_lim_isRow__lim_isLimit := fun k _ _ _ _ _ hy =>
  entry_sound (unpack := up_lim_isRow__lim_isLimit) (A := A_lim_isRow__lim_isLimit) (k := k) (pre := 1000) (na := 0) (E := E_lim_isRow__lim_isLimit) E_lim_isRow__lim_isLimit_ok E_lim_isRow__lim_isLimit_local mixed_orders (f := 48) (fn := Proofs.Try.f48) (by kernel_rfl) (body_loops (loopsOK_none (by kernel_rfl))) (enters (fn := Proofs.Try.f48) (by kernel_rfl) (by kernel_rfl) (by kernel_rfl)) (fun _ => rfl) (lim_isRow__lim_isLimit_ev k) hy
theorem R_lim_isRow__lim_isLimit_local : EntryLocal R_lim_isRow__lim_isLimit.2 := entry_local (S := fun k (d : AD as_lim_isRow__lim_isLimit) => lim_isRow__lim_isLimit k d.1 d.2.1)

/-! ### giro/lim.isSquare -/
noncomputable def E_lim_isSquare__lim_isLimit : Env := ⟨Proofs.Try.prog, fun _ => false, sumsOf [R_lim_isRow__lim_isLimit]⟩
def I_lim_isSquare__lim_isLimit_L0 : Spec := ⟨[(1, .c (.int .i64)), (2, .c (.lit (.fn 47 []))), (13, .c (.dat false (.sl (.int .i64)))), (14, .c (.int .i64)), (15, .c (.int .i64))], [], []⟩
def O_lim_isSquare__lim_isLimit_L0 : List (Ex × Spec) := [(.exit 0, ⟨[], [], []⟩), (.ret, ⟨[(6, .c (.bool))], [], []⟩)]
def T_lim_isSquare__lim_isLimit_L0 : OutD O_lim_isSquare__lim_isLimit_L0 → Unit ⊕ Bool
 | .inl d => .inl ()
 | .inr d => .inr d.1.1.1
def e_lim_isSquare__lim_isLimit_L0 (base : Nat) (x : Unit ⊕ Bool) (R : Type) (K : Ex → St → Option R) : Option R := match x with
 | .inl x => K (.exit 0) (stOf base ⟨[], [], []⟩ ((), ()))
 | .inr x => K .ret (stOf base ⟨[(6, .c (.bool))], [], []⟩ (((x, ()), ()), ()))
def L_lim_isSquare__lim_isLimit_L0 : LoopSum := ⟨I_lim_isSquare__lim_isLimit_L0, O_lim_isSquare__lim_isLimit_L0, Unit ⊕ Bool, fun k d => lim_isSquare__lim_isLimit_L0 k k d.1.1.1 d.1.2.2.1.1 d.1.2.2.2.1.1 d.1.2.2.2.2.1.1, e_lim_isSquare__lim_isLimit_L0⟩
def A_lim_isSquare__lim_isLimit : Notes := ⟨[], [(4, L_lim_isSquare__lim_isLimit_L0)]⟩
theorem E_lim_isSquare__lim_isLimit_ok : EnvOK E_lim_isSquare__lim_isLimit := ⟨eqOK_none, sumsOf_ok (List.forall_mem_cons.2 ⟨R_lim_isRow__lim_isLimit_ok, List.forall_mem_nil _⟩)⟩
theorem E_lim_isSquare__lim_isLimit_local : SumsLocal E_lim_isSquare__lim_isLimit.sums := sumsOf_local (List.forall_mem_cons.2 ⟨R_lim_isRow__lim_isLimit_local, List.forall_mem_nil _⟩)
theorem lim_isSquare__lim_isLimit_L0_step (k : Nat) (rec : Int → List (List Int) → Int → Int → Option (Unit ⊕ Bool)) (d : I_lim_isSquare__lim_isLimit_L0.den) : lim_isSquare__lim_isLimit_L0b k rec d.1.1.1 d.1.2.2.1.1 d.1.2.2.2.1.1 d.1.2.2.2.2.1.1 = evC E_lim_isSquare__lim_isLimit A_lim_isSquare__lim_isLimit k 1000 0 25 (loopAt (bodyOf Proofs.Try.f46) 0) (stOf (1000 + loopBase) I_lim_isSquare__lim_isLimit_L0 d) (roundK 1000 I_lim_isSquare__lim_isLimit_L0 O_lim_isSquare__lim_isLimit_L0 T_lim_isSquare__lim_isLimit_L0 fun d => rec d.1.1.1 d.1.2.2.1.1 d.1.2.2.2.1.1 d.1.2.2.2.2.1.1) := by
  obtain ⟨⟨⟨_, _⟩, _, ⟨_, _⟩, ⟨_, _⟩, ⟨_, _⟩, _⟩, _⟩ := d
  kernel_rfl
theorem lim_isSquare__lim_isLimit_L0_ok : LoopOK Proofs.Try.prog 1000 0 25 (loopAt (bodyOf Proofs.Try.f46) 0) L_lim_isSquare__lim_isLimit_L0 :=
  loop_sound (A := A_lim_isSquare__lim_isLimit) (inS := I_lim_isSquare__lim_isLimit_L0) (outs := O_lim_isSquare__lim_isLimit_L0) E_lim_isSquare__lim_isLimit_ok E_lim_isSquare__lim_isLimit_local mixed_orders (loopsOK_none (by kernel_rfl)) T_lim_isSquare__lim_isLimit_L0 e_lim_isSquare__lim_isLimit_L0 (by intro o R K; rcases o with o | o <;> rfl) (fun k n d => lim_isSquare__lim_isLimit_L0 k n d.1.1.1 d.1.2.2.1.1 d.1.2.2.2.1.1 d.1.2.2.2.2.1.1) (fun _ _ => rfl) (fun k n d => lim_isSquare__lim_isLimit_L0_step k (lim_isSquare__lim_isLimit_L0 k n) d)
def as_lim_isSquare__lim_isLimit : List AS := [.c (.dat false (.sl (.int .i64))), .c (.int .i64), .c (.fn 47)]
def rs_lim_isSquare__lim_isLimit : RS := .c (.bool)
def pk_lim_isSquare__lim_isLimit : Bool → RL rs_lim_isSquare__lim_isLimit.cells := fun x => (x, ())
def up_lim_isSquare__lim_isLimit : RL rs_lim_isSquare__lim_isLimit.cells → Bool := fun d => d.1
def R_lim_isSquare__lim_isLimit : Nat × Entry := (46, fun k nm args h => entry as_lim_isSquare__lim_isLimit rs_lim_isSquare__lim_isLimit (fun d => lim_isSquare__lim_isLimit k d.1 d.2.1) pk_lim_isSquare__lim_isLimit nm args h)
theorem lim_isSquare__lim_isLimit_ev (k : Nat) (d : AD as_lim_isSquare__lim_isLimit) : evF E_lim_isSquare__lim_isLimit A_lim_isSquare__lim_isLimit k 1000 0 Proofs.Try.f46 (absArgs as_lim_isSquare__lim_isLimit d).1 (absArgs as_lim_isSquare__lim_isLimit d).2 (outM rs_lim_isSquare__lim_isLimit up_lim_isSquare__lim_isLimit) = lim_isSquare__lim_isLimit k d.1 d.2.1 := by
  obtain ⟨_, _, _, _⟩ := d
  kernel_rfl
theorem R_lim_isSquare__lim_isLimit_ok : EntryOK Proofs.Try.prog R_lim_isSquare__lim_isLimit := fun k _ _ _ _ _ hy =>
  entry_sound (unpack := up_lim_isSquare__lim_isLimit) (A := A_lim_isSquare__lim_isLimit) (k := k) (pre := 1000) (na := 0) (E := E_lim_isSquare__lim_isLimit) E_lim_isSquare__lim_isLimit_ok E_lim_isSquare__lim_isLimit_local mixed_orders (f := 46) (fn := Proofs.Try.f46) (by kernel_rfl) (body_loops (loopsOK_of (n := 1) (by kernel_rfl) fun i hi => match i, hi with | 0, _ => ⟨L_lim_isSquare__lim_isLimit_L0, by kernel_rfl, lim_isSquare__lim_isLimit_L0_ok⟩ | i + 1, hi => absurd hi (by omega))) (enters (fn := Proofs.Try.f46) (by kernel_rfl) (by kernel_rfl) (by kernel_rfl)) (fun _ => rfl) (lim_isSquare__lim_isLimit_ev k) hy
theorem R_lim_isSquare__lim_isLimit_local : EntryLocal R_lim_isSquare__lim_isLimit.2 := entry_local (S := fun k (d : AD as_lim_isSquare__lim_isLimit) => lim_isSquare__lim_isLimit k d.1 d.2.1)

/-! ### giro/lim.isNet -/
noncomputable def E_lim_isNet : Env := ⟨Proofs.Try.prog, fun _ => false, sumsOf []⟩
def A_lim_isNet : Notes := ⟨[], []⟩
theorem E_lim_isNet_ok : EnvOK E_lim_isNet := ⟨eqOK_none, sumsOf_ok (List.forall_mem_nil _)⟩
theorem E_lim_isNet_local : SumsLocal E_lim_isNet.sums := sumsOf_local (List.forall_mem_nil _)
def as_lim_isNet : List AS := [.c (.int .i64)]
def rs_lim_isNet : RS := .c (.bool)
def pk_lim_isNet : Bool → RL rs_lim_isNet.cells := fun x => (x, ())
def up_lim_isNet : RL rs_lim_isNet.cells → Bool := fun d => d.1
def R_lim_isNet : Nat × Entry := (49, fun k nm args h => entry as_lim_isNet rs_lim_isNet (fun d => lim_isNet k d.1) pk_lim_isNet nm args h)
theorem lim_isNet_ev (k : Nat) (d : AD as_lim_isNet) : evF E_lim_isNet A_lim_isNet k 1000 0 Proofs.Try.f49 (absArgs as_lim_isNet d).1 (absArgs as_lim_isNet d).2 (outM rs_lim_isNet up_lim_isNet) = lim_isNet k d.1 := by
  obtain ⟨_, _⟩ := d
  kernel_rfl
theorem R_lim_isNet_ok : EntryOK Proofs.Try.prog R_lim_isNet := fun k _ _ _ _ _ hy =>
  entry_sound (unpack := up_lim_isNet) (A := A_lim_isNet) (k := k) (pre := 1000) (na := 0) (E := E_lim_isNet) E_lim_isNet_ok E_lim_isNet_local mixed_orders (f := 49) (fn := Proofs.Try.f49) (by kernel_rfl) (body_loops (loopsOK_none (by kernel_rfl))) (enters (fn := Proofs.Try.f49) (by kernel_rfl) (by kernel_rfl) (by kernel_rfl)) (fun _ => rfl) (lim_isNet_ev k) hy
theorem R_lim_isNet_local : EntryLocal R_lim_isNet.2 := entry_local (S := fun k (d : AD as_lim_isNet) => lim_isNet k d.1)

/-! ### giro/lim.isRow$1 -/
noncomputable def E_lim_isRow_fn1__lim_isNet : Env := ⟨Proofs.Try.prog, fun _ => false, sumsOf [R_lim_isNet]⟩
def A_lim_isRow_fn1__lim_isNet : Notes := ⟨[], []⟩
theorem E_lim_isRow_fn1__lim_isNet_ok : EnvOK E_lim_isRow_fn1__lim_isNet := ⟨eqOK_none, sumsOf_ok (List.forall_mem_cons.2 ⟨R_lim_isNet_ok, List.forall_mem_nil _⟩)⟩
theorem E_lim_isRow_fn1__lim_isNet_local : SumsLocal E_lim_isRow_fn1__lim_isNet.sums := sumsOf_local (List.forall_mem_cons.2 ⟨R_lim_isNet_local, List.forall_mem_nil _⟩)
def as_lim_isRow_fn1__lim_isNet : List AS := [.c (.int .i64), .ptr [.fn 49]]
def rs_lim_isRow_fn1__lim_isNet : RS := .c (.bool)
def pk_lim_isRow_fn1__lim_isNet : Bool → RL rs_lim_isRow_fn1__lim_isNet.cells := fun x => (x, ())
def up_lim_isRow_fn1__lim_isNet : RL rs_lim_isRow_fn1__lim_isNet.cells → Bool := fun d => d.1
def R_lim_isRow_fn1__lim_isNet : Nat × Entry := (61, fun k nm args h => entry as_lim_isRow_fn1__lim_isNet rs_lim_isRow_fn1__lim_isNet (fun d => lim_isRow_fn1__lim_isNet k d.1) pk_lim_isRow_fn1__lim_isNet nm args h)
theorem lim_isRow_fn1__lim_isNet_ev (k : Nat) (d : AD as_lim_isRow_fn1__lim_isNet) : evF E_lim_isRow_fn1__lim_isNet A_lim_isRow_fn1__lim_isNet k 1000 0 Proofs.Try.f61 (absArgs as_lim_isRow_fn1__lim_isNet d).1 (absArgs as_lim_isRow_fn1__lim_isNet d).2 (outM rs_lim_isRow_fn1__lim_isNet up_lim_isRow_fn1__lim_isNet) = lim_isRow_fn1__lim_isNet k d.1 := by
  obtain ⟨_, _, _⟩ := d
  kernel_rfl
theorem R_lim_isRow_fn1__lim_isNet_ok : EntryOK Proofs.Try.prog R_lim_isRow_fn1__lim_isNet := fun k _ _ _ _ _ hy =>
  entry_sound (unpack := up_lim_isRow_fn1__lim_isNet) (A := A_lim_isRow_fn1__lim_isNet) (k := k) (pre := 1000) (na := 0) (E := E_lim_isRow_fn1__lim_isNet) E_lim_isRow_fn1__lim_isNet_ok E_lim_isRow_fn1__lim_isNet_local mixed_orders (f := 61) (fn := Proofs.Try.f61) (by kernel_rfl) (body_loops (loopsOK_none (by kernel_rfl))) (enters (fn := Proofs.Try.f61) (by kernel_rfl) (by kernel_rfl) (by kernel_rfl)) (fun _ => rfl) (lim_isRow_fn1__lim_isNet_ev k) hy
theorem R_lim_isRow_fn1__lim_isNet_local : EntryLocal R_lim_isRow_fn1__lim_isNet.2 := entry_local (S := fun k (d : AD as_lim_isRow_fn1__lim_isNet) => lim_isRow_fn1__lim_isNet k d.1)

/-! ### slices.IndexFunc[[]int64,int64] -/
noncomputable def E_slices_IndexFunc_int64__lim_isRow_fn1__lim_isNet : Env := ⟨Proofs.Try.prog, fun _ => false, sumsOf [R_lim_isRow_fn1__lim_isNet]⟩
def I_slices_IndexFunc_int64__lim_isRow_fn1__lim_isNet_L0 : Spec := ⟨[(0, .c (.dat false (.int .i64))), (1, .c (.lit (.fn 61 [1001000]))), (7, .c (.int .i64)), (8, .c (.int .i64))], [.robox [.lit (.fn 49 [])]], []⟩
def O_slices_IndexFunc_int64__lim_isRow_fn1__lim_isNet_L0 : List (Ex × Spec) := [(.exit 0, ⟨[], [], []⟩), (.ret, ⟨[(4, .c (.int .i64))], [], []⟩)]
def T_slices_IndexFunc_int64__lim_isRow_fn1__lim_isNet_L0 : OutD O_slices_IndexFunc_int64__lim_isRow_fn1__lim_isNet_L0 → Unit ⊕ Int
 | .inl d => .inl ()
 | .inr d => .inr d.1.1.1
def e_slices_IndexFunc_int64__lim_isRow_fn1__lim_isNet_L0 (base : Nat) (x : Unit ⊕ Int) (R : Type) (K : Ex → St → Option R) : Option R := match x with
 | .inl x => K (.exit 0) (stOf base ⟨[], [], []⟩ ((), ()))
 | .inr x => K .ret (stOf base ⟨[(4, .c (.int .i64))], [], []⟩ (((x, ()), ()), ()))
def L_slices_IndexFunc_int64__lim_isRow_fn1__lim_isNet_L0 : LoopSum := ⟨I_slices_IndexFunc_int64__lim_isRow_fn1__lim_isNet_L0, O_slices_IndexFunc_int64__lim_isRow_fn1__lim_isNet_L0, Unit ⊕ Int, fun k d => slices_IndexFunc_int64__lim_isRow_fn1__lim_isNet_L0 k k d.1.1.1 d.1.2.2.1.1 d.1.2.2.2.1.1, e_slices_IndexFunc_int64__lim_isRow_fn1__lim_isNet_L0⟩
def A_slices_IndexFunc_int64__lim_isRow_fn1__lim_isNet : Notes := ⟨[], [(2, L_slices_IndexFunc_int64__lim_isRow_fn1__lim_isNet_L0)]⟩
theorem E_slices_IndexFunc_int64__lim_isRow_fn1__lim_isNet_ok : EnvOK E_slices_IndexFunc_int64__lim_isRow_fn1__lim_isNet := ⟨eqOK_none, sumsOf_ok (List.forall_mem_cons.2 ⟨R_lim_isRow_fn1__lim_isNet_ok, List.forall_mem_nil _⟩)⟩
theorem E_slices_IndexFunc_int64__lim_isRow_fn1__lim_isNet_local : SumsLocal E_slices_IndexFunc_int64__lim_isRow_fn1__lim_isNet.sums := sumsOf_local (List.forall_mem_cons.2 ⟨R_lim_isRow_fn1__lim_isNet_local, List.forall_mem_nil _⟩)
theorem slices_IndexFunc_int64__lim_isRow_fn1__lim_isNet_L0_step (k : Nat) (rec : List Int → Int → Int → Option (Unit ⊕ Int)) (d : I_slices_IndexFunc_int64__lim_isRow_fn1__lim_isNet_L0.den) : slices_IndexFunc_int64__lim_isRow_fn1__lim_isNet_L0b k rec d.1.1.1 d.1.2.2.1.1 d.1.2.2.2.1.1 = evC E_slices_IndexFunc_int64__lim_isRow_fn1__lim_isNet A_slices_IndexFunc_int64__lim_isRow_fn1__lim_isNet k 1000 0 19 (loopAt (bodyOf Proofs.Try.f63) 0) (stOf (1000 + loopBase) I_slices_IndexFunc_int64__lim_isRow_fn1__lim_isNet_L0 d) (roundK 1000 I_slices_IndexFunc_int64__lim_isRow_fn1__lim_isNet_L0 O_slices_IndexFunc_int64__lim_isRow_fn1__lim_isNet_L0 T_slices_IndexFunc_int64__lim_isRow_fn1__lim_isNet_L0 fun d => rec d.1.1.1 d.1.2.2.1.1 d.1.2.2.2.1.1) := by
  obtain ⟨⟨⟨_, _⟩, _, ⟨_, _⟩, ⟨_, _⟩, _⟩, ⟨_, _⟩⟩ := d
  kernel_rfl
theorem slices_IndexFunc_int64__lim_isRow_fn1__lim_isNet_L0_ok : LoopOK Proofs.Try.prog 1000 0 19 (loopAt (bodyOf Proofs.Try.f63) 0) L_slices_IndexFunc_int64__lim_isRow_fn1__lim_isNet_L0 :=
  loop_sound (A := A_slices_IndexFunc_int64__lim_isRow_fn1__lim_isNet) (inS := I_slices_IndexFunc_int64__lim_isRow_fn1__lim_isNet_L0) (outs := O_slices_IndexFunc_int64__lim_isRow_fn1__lim_isNet_L0) E_slices_IndexFunc_int64__lim_isRow_fn1__lim_isNet_ok E_slices_IndexFunc_int64__lim_isRow_fn1__lim_isNet_local mixed_orders (loopsOK_none (by kernel_rfl)) T_slices_IndexFunc_int64__lim_isRow_fn1__lim_isNet_L0 e_slices_IndexFunc_int64__lim_isRow_fn1__lim_isNet_L0 (by intro o R K; rcases o with o | o <;> rfl) (fun k n d => slices_IndexFunc_int64__lim_isRow_fn1__lim_isNet_L0 k n d.1.1.1 d.1.2.2.1.1 d.1.2.2.2.1.1) (fun _ _ => rfl) (fun k n d => slices_IndexFunc_int64__lim_isRow_fn1__lim_isNet_L0_step k (slices_IndexFunc_int64__lim_isRow_fn1__lim_isNet_L0 k n) d)
def as_slices_IndexFunc_int64__lim_isRow_fn1__lim_isNet : List AS := [.c (.dat false (.int .i64)), .fn 61 [[.fn 49]]]
def rs_slices_IndexFunc_int64__lim_isRow_fn1__lim_isNet : RS := .c (.int .i64)
def pk_slices_IndexFunc_int64__lim_isRow_fn1__lim_isNet : Int → RL rs_slices_IndexFunc_int64__lim_isRow_fn1__lim_isNet.cells := fun x => (x, ())
def up_slices_IndexFunc_int64__lim_isRow_fn1__lim_isNet : RL rs_slices_IndexFunc_int64__lim_isRow_fn1__lim_isNet.cells → Int := fun d => d.1
def R_slices_IndexFunc_int64__lim_isRow_fn1__lim_isNet : Nat × Entry := (63, fun k nm args h => entry as_slices_IndexFunc_int64__lim_isRow_fn1__lim_isNet rs_slices_IndexFunc_int64__lim_isRow_fn1__lim_isNet (fun d => slices_IndexFunc_int64__lim_isRow_fn1__lim_isNet k d.1) pk_slices_IndexFunc_int64__lim_isRow_fn1__lim_isNet nm args h)
theorem slices_IndexFunc_int64__lim_isRow_fn1__lim_isNet_ev (k : Nat) (d : AD as_slices_IndexFunc_int64__lim_isRow_fn1__lim_isNet) : evF E_slices_IndexFunc_int64__lim_isRow_fn1__lim_isNet A_slices_IndexFunc_int64__lim_isRow_fn1__lim_isNet k 1000 0 Proofs.Try.f63 (absArgs as_slices_IndexFunc_int64__lim_isRow_fn1__lim_isNet d).1 (absArgs as_slices_IndexFunc_int64__lim_isRow_fn1__lim_isNet d).2 (outM rs_slices_IndexFunc_int64__lim_isRow_fn1__lim_isNet up_slices_IndexFunc_int64__lim_isRow_fn1__lim_isNet) = slices_IndexFunc_int64__lim_isRow_fn1__lim_isNet k d.1 := by
  obtain ⟨_, _, _⟩ := d
  kernel_rfl
theorem R_slices_IndexFunc_int64__lim_isRow_fn1__lim_isNet_ok : EntryOK Proofs.Try.prog R_slices_IndexFunc_int64__lim_isRow_fn1__lim_isNet := fun k _ _ _ _ _ hy =>
  entry_sound (unpack := up_slices_IndexFunc_int64__lim_isRow_fn1__lim_isNet) (A := A_slices_IndexFunc_int64__lim_isRow_fn1__lim_isNet) (k := k) (pre := 1000) (na := 0) (E := E_slices_IndexFunc_int64__lim_isRow_fn1__lim_isNet) E_slices_IndexFunc_int64__lim_isRow_fn1__lim_isNet_ok E_slices_IndexFunc_int64__lim_isRow_fn1__lim_isNet_local mixed_orders (f := 63) (fn := Proofs.Try.f63) (by kernel_rfl) (body_loops (loopsOK_of (n := 1) (by kernel_rfl) fun i hi => match i, hi with | 0, _ => ⟨L_slices_IndexFunc_int64__lim_isRow_fn1__lim_isNet_L0, by kernel_rfl, slices_IndexFunc_int64__lim_isRow_fn1__lim_isNet_L0_ok⟩ | i + 1, hi => absurd hi (by omega))) (enters (fn := Proofs.Try.f63) (by kernel_rfl) (by kernel_rfl) (by kernel_rfl)) (fun _ => rfl) (slices_IndexFunc_int64__lim_isRow_fn1__lim_isNet_ev k) hy
theorem R_slices_IndexFunc_int64__lim_isRow_fn1__lim_isNet_local : EntryLocal R_slices_IndexFunc_int64__lim_isRow_fn1__lim_isNet.2 := entry_local (S := fun k (d : AD as_slices_IndexFunc_int64__lim_isRow_fn1__lim_isNet) => slices_IndexFunc_int64__lim_isRow_fn1__lim_isNet k d.1)

/-! ### slices.ContainsFunc[[]int64,int64] -/
noncomputable def E_slices_ContainsFunc_int64__lim_isRow_fn1__lim_isNet : Env := ⟨Proofs.Try.prog, fun _ => false, sumsOf [R_slices_IndexFunc_int64__lim_isRow_fn1__lim_isNet]⟩
def A_slices_ContainsFunc_int64__lim_isRow_fn1__lim_isNet : Notes := ⟨[], []⟩
theorem E_slices_ContainsFunc_int64__lim_isRow_fn1__lim_isNet_ok : EnvOK E_slices_ContainsFunc_int64__lim_isRow_fn1__lim_isNet := ⟨eqOK_none, sumsOf_ok (List.forall_mem_cons.2 ⟨R_slices_IndexFunc_int64__lim_isRow_fn1__lim_isNet_ok, List.forall_mem_nil _⟩)⟩
theorem E_slices_ContainsFunc_int64__lim_isRow_fn1__lim_isNet_local : SumsLocal E_slices_ContainsFunc_int64__lim_isRow_fn1__lim_isNet.sums := sumsOf_local (List.forall_mem_cons.2 ⟨R_slices_IndexFunc_int64__lim_isRow_fn1__lim_isNet_local, List.forall_mem_nil _⟩)
def as_slices_ContainsFunc_int64__lim_isRow_fn1__lim_isNet : List AS := [.c (.dat false (.int .i64)), .fn 61 [[.fn 49]]]
def rs_slices_ContainsFunc_int64__lim_isRow_fn1__lim_isNet : RS := .c (.bool)
def pk_slices_ContainsFunc_int64__lim_isRow_fn1__lim_isNet : Bool → RL rs_slices_ContainsFunc_int64__lim_isRow_fn1__lim_isNet.cells := fun x => (x, ())
def up_slices_ContainsFunc_int64__lim_isRow_fn1__lim_isNet : RL rs_slices_ContainsFunc_int64__lim_isRow_fn1__lim_isNet.cells → Bool := fun d => d.1
def R_slices_ContainsFunc_int64__lim_isRow_fn1__lim_isNet : Nat × Entry := (60, fun k nm args h => entry as_slices_ContainsFunc_int64__lim_isRow_fn1__lim_isNet rs_slices_ContainsFunc_int64__lim_isRow_fn1__lim_isNet (fun d => slices_ContainsFunc_int64__lim_isRow_fn1__lim_isNet k d.1) pk_slices_ContainsFunc_int64__lim_isRow_fn1__lim_isNet nm args h)
theorem slices_ContainsFunc_int64__lim_isRow_fn1__lim_isNet_ev (k : Nat) (d : AD as_slices_ContainsFunc_int64__lim_isRow_fn1__lim_isNet) : evF E_slices_ContainsFunc_int64__lim_isRow_fn1__lim_isNet A_slices_ContainsFunc_int64__lim_isRow_fn1__lim_isNet k 1000 0 Proofs.Try.f60 (absArgs as_slices_ContainsFunc_int64__lim_isRow_fn1__lim_isNet d).1 (absArgs as_slices_ContainsFunc_int64__lim_isRow_fn1__lim_isNet d).2 (outM rs_slices_ContainsFunc_int64__lim_isRow_fn1__lim_isNet up_slices_ContainsFunc_int64__lim_isRow_fn1__lim_isNet) = slices_ContainsFunc_int64__lim_isRow_fn1__lim_isNet k d.1 := by
  obtain ⟨_, _, _⟩ := d
  kernel_rfl
theorem R_slices_ContainsFunc_int64__lim_isRow_fn1__lim_isNet_ok : EntryOK Proofs.Try.prog R_slices_ContainsFunc_int64__lim_isRow_fn1__lim_isNet := fun k _ _ _ _ _ hy =>
  entry_sound (unpack := up_slices_ContainsFunc_int64__lim_isRow_fn1__lim_isNet) (A := A_slices_ContainsFunc_int64__lim_isRow_fn1__lim_isNet) (k := k) (pre := 1000) (na := 0) (E := E_slices_ContainsFunc_int64__lim_isRow_fn1__lim_isNet) E_slices_ContainsFunc_int64__lim_isRow_fn1__lim_isNet_ok E_slices_ContainsFunc_int64__lim_isRow_fn1__lim_isNet_local mixed_orders (f := 60) (fn := Proofs.Try.f60) (by kernel_rfl) (body_loops (loopsOK_none (by kernel_rfl))) (enters (fn := Proofs.Try.f60) (by kernel_rfl) (by kernel_rfl) (by kernel_rfl)) (fun _ => rfl) (slices_ContainsFunc_int64__lim_isRow_fn1__lim_isNet_ev k) hy
theorem R_slices_ContainsFunc_int64__lim_isRow_fn1__lim_isNet_local : EntryLocal R_slices_ContainsFunc_int64__lim_isRow_fn1__lim_isNet.2 := entry_local (S := fun k (d : AD as_slices_ContainsFunc_int64__lim_isRow_fn1__lim_isNet) => slices_ContainsFunc_int64__lim_isRow_fn1__lim_isNet k d.1)

/-! ### giro/lim.isRow -/
noncomputable def E_lim_isRow__lim_isNet : Env := ⟨Proofs.Try.prog, fun _ => false, sumsOf [R_slices_ContainsFunc_int64__lim_isRow_fn1__lim_isNet]⟩
def A_lim_isRow__lim_isNet : Notes := ⟨[], []⟩
theorem E_lim_isRow__lim_isNet_ok : EnvOK E_lim_isRow__lim_isNet := ⟨eqOK_none, sumsOf_ok (List.forall_mem_cons.2 ⟨R_slices_ContainsFunc_int64__lim_isRow_fn1__lim_isNet_ok, List.forall_mem_nil _⟩)⟩
theorem E_lim_isRow__lim_isNet_local : SumsLocal E_lim_isRow__lim_isNet.sums := sumsOf_local (List.forall_mem_cons.2 ⟨R_slices_ContainsFunc_int64__lim_isRow_fn1__lim_isNet_local, List.forall_mem_nil _⟩)
def as_lim_isRow__lim_isNet : List AS := [.c (.dat false (.int .i64)), .c (.int .i64), .c (.fn 49)]
def rs_lim_isRow__lim_isNet : RS := .c (.bool)
def pk_lim_isRow__lim_isNet : Bool → RL rs_lim_isRow__lim_isNet.cells := fun x => (x, ())
def up_lim_isRow__lim_isNet : RL rs_lim_isRow__lim_isNet.cells → Bool := fun d => d.1
def R_lim_isRow__lim_isNet : Nat × Entry := (48, fun k nm args h => entry as_lim_isRow__lim_isNet rs_lim_isRow__lim_isNet (fun d => lim_isRow__lim_isNet k d.1 d.2.1) pk_lim_isRow__lim_isNet nm args h)
theorem lim_isRow__lim_isNet_ev (k : Nat) (d : AD as_lim_isRow__lim_isNet) : evF E_lim_isRow__lim_isNet A_lim_isRow__lim_isNet k 1000 0 Proofs.Try.f48 (absArgs as_lim_isRow__lim_isNet d).1 (absArgs as_lim_isRow__lim_isNet d).2 (outM rs_lim_isRow__lim_isNet up_lim_isRow__lim_isNet) = lim_isRow__lim_isNet k d.1 d.2.1 := by
  obtain ⟨_, _, _, _⟩ := d
  kernel_rfl
theorem R_lim_isRow__lim_isNet_ok : EntryOK Proofs.Try.prog R_lim_isRow__lim_isNet := fun k _ _ _ _ _ hy =>
  entry_sound (unpack := up_lim_isRow__lim_isNet) (A := A_lim_isRow__lim_isNet) (k := k) (pre := 1000) (na := 0) (E := E_lim_isRow__lim_isNet) E_lim_isRow__lim_isNet_ok E_lim_isRow__lim_isNet_local mixed_orders (f := 48) (fn := Proofs.Try.f48) (by kernel_rfl) (body_loops (loopsOK_none (by kernel_rfl))) (enters (fn := Proofs.Try.f48) (by kernel_rfl) (by kernel_rfl) (by kernel_rfl)) (fun _ => rfl) (lim_isRow__lim_isNet_ev k) hy
theorem R_lim_isRow__lim_isNet_local : EntryLocal R_lim_isRow__lim_isNet.2 := entry_local (S := fun k (d : AD as_lim_isRow__lim_isNet) => lim_isRow__lim_isNet k d.1 d.2.1)

/-! ### giro/lim.isSquare -/
noncomputable def E_lim_isSquare__lim_isNet : Env := ⟨Proofs.Try.prog, fun _ => false, sumsOf [R_lim_isRow__lim_isNet]⟩
def I_lim_isSquare__lim_isNet_L0 : Spec := ⟨[(1, .c (.int .i64)), (2, .c (.lit (.fn 49 []))), (13, .c (.dat false (.sl (.int .i64)))), (14, .c (.int .i64)), (15, .c (.int .i64))], [], []⟩
def O_lim_isSquare__lim_isNet_L0 : List (Ex × Spec) := [(.exit 0, ⟨[], [], []⟩), (.ret, ⟨[(6, .c (.bool))], [], []⟩)]
def T_lim_isSquare__lim_isNet_L0 : OutD O_lim_isSquare__lim_isNet_L0 → Unit ⊕ Bool
 | .inl d => .inl ()
 | .inr d => .inr d.1.1.1
def e_lim_isSquare__lim_isNet_L0 (base : Nat) (x : Unit ⊕ Bool) (R : Type) (K : Ex → St → Option R) : Option R := match x with
 | .inl x => K (.exit 0) (stOf base ⟨[], [], []⟩ ((), ()))
 | .inr x => K .ret (stOf base ⟨[(6, .c (.bool))], [], []⟩ (((x, ()), ()), ()))
def L_lim_isSquare__lim_isNet_L0 : LoopSum := ⟨I_lim_isSquare__lim_isNet_L0, O_lim_isSquare__lim_isNet_L0, Unit ⊕ Bool, fun k d => lim_isSquare__lim_isNet_L0 k k d.1.1.1 d.1.2.2.1.1 d.1.2.2.2.1.1 d.1.2.2.2.2.1.1, e_lim_isSquare__lim_isNet_L0⟩
def A_lim_isSquare__lim_isNet : Notes := ⟨[], [(4, L_lim_isSquare__lim_isNet_L0)]⟩
theorem E_lim_isSquare__lim_isNet_ok : EnvOK E_lim_isSquare__lim_isNet := ⟨eqOK_none, sumsOf_ok (List.forall_mem_cons.2 ⟨R_lim_isRow__lim_isNet_ok, List.forall_mem_nil _⟩)⟩
theorem E_lim_isSquare__lim_isNet_local : SumsLocal E_lim_isSquare__lim_isNet.sums := sumsOf_local (List.forall_mem_cons.2 ⟨R_lim_isRow__lim_isNet_local, List.forall_mem_nil _⟩)
theorem lim_isSquare__lim_isNet_L0_step (k : Nat) (rec : Int → List (List Int) → Int → Int → Option (Unit ⊕ Bool)) (d : I_lim_isSquare__lim_isNet_L0.den) : lim_isSquare__lim_isNet_L0b k rec d.1.1.1 d.1.2.2.1.1 d.1.2.2.2.1.1 d.1.2.2.2.2.1.1 = evC E_lim_isSquare__lim_isNet A_lim_isSquare__lim_isNet k 1000 0 25 (loopAt (bodyOf Proofs.Try.f46) 0) (stOf (1000 + loopBase) I_lim_isSquare__lim_isNet_L0 d) (roundK 1000 I_lim_isSquare__lim_isNet_L0 O_lim_isSquare__lim_isNet_L0 T_lim_isSquare__lim_isNet_L0 fun d => rec d.1.1.1 d.1.2.2.1.1 d.1.2.2.2.1.1 d.1.2.2.2.2.1.1) := by
  obtain ⟨⟨⟨_, _⟩, _, ⟨_, _⟩, ⟨_, _⟩, ⟨_, _⟩, _⟩, _⟩ := d
  kernel_rfl
theorem lim_isSquare__lim_isNet_L0_ok : LoopOK Proofs.Try.prog 1000 0 25 (loopAt (bodyOf Proofs.Try.f46) 0) L_lim_isSquare__lim_isNet_L0 :=
  loop_sound (A := A_lim_isSquare__lim_isNet) (inS := I_lim_isSquare__lim_isNet_L0) (outs := O_lim_isSquare__lim_isNet_L0) E_lim_isSquare__lim_isNet_ok E_lim_isSquare__lim_isNet_local mixed_orders (loopsOK_none (by kernel_rfl)) T_lim_isSquare__lim_isNet_L0 e_lim_isSquare__lim_isNet_L0 (by intro o R K; rcases o with o | o <;> rfl) (fun k n d => lim_isSquare__lim_isNet_L0 k n d.1.1.1 d.1.2.2.1.1 d.1.2.2.2.1.1 d.1.2.2.2.2.1.1) (fun _ _ => rfl) (fun k n d => lim_isSquare__lim_isNet_L0_step k (lim_isSquare__lim_isNet_L0 k n) d)
def as_lim_isSquare__lim_isNet : List AS := [.c (.dat false (.sl (.int .i64))), .c (.int .i64), .c (.fn 49)]
def rs_lim_isSquare__lim_isNet : RS := .c (.bool)
def pk_lim_isSquare__lim_isNet : Bool → RL rs_lim_isSquare__lim_isNet.cells := fun x => (x, ())
def up_lim_isSquare__lim_isNet : RL rs_lim_isSquare__lim_isNet.cells → Bool := fun d => d.1
def R_lim_isSquare__lim_isNet : Nat × Entry := (46, fun k nm args h => entry as_lim_isSquare__lim_isNet rs_lim_isSquare__lim_isNet (fun d => lim_isSquare__lim_isNet k d.1 d.2.1) pk_lim_isSquare__lim_isNet nm args h)
theorem lim_isSquare__lim_isNet_ev (k : Nat) (d : AD as_lim_isSquare__lim_isNet) : evF E_lim_isSquare__lim_isNet A_lim_isSquare__lim_isNet k 1000 0 Proofs.Try.f46 (absArgs as_lim_isSquare__lim_isNet d).1 (absArgs as_lim_isSquare__lim_isNet d).2 (outM rs_lim_isSquare__lim_isNet up_lim_isSquare__lim_isNet) = lim_isSquare__lim_isNet k d.1 d.2.1 := by
  obtain ⟨_, _, _, _⟩ := d
  kernel_rfl
theorem R_lim_isSquare__lim_isNet_ok : EntryOK Proofs.Try.prog R_lim_isSquare__lim_isNet := fun k _ _ _ _ _ hy =>
  entry_sound (unpack := up_lim_isSquare__lim_isNet) (A := A_lim_isSquare__lim_isNet) (k := k) (pre := 1000) (na := 0) (E := E_lim_isSquare__lim_isNet) E_lim_isSquare__lim_isNet_ok E_lim_isSquare__lim_isNet_local mixed_orders (f := 46) (fn := Proofs.Try.f46) (by kernel_rfl) (body_loops (loopsOK_of (n := 1) (by kernel_rfl) fun i hi => match i, hi with | 0, _ => ⟨L_lim_isSquare__lim_isNet_L0, by kernel_rfl, lim_isSquare__lim_isNet_L0_ok⟩ | i + 1, hi => absurd hi (by omega))) (enters (fn := Proofs.Try.f46) (by kernel_rfl) (by kernel_rfl) (by kernel_rfl)) (fun _ => rfl) (lim_isSquare__lim_isNet_ev k) hy
theorem R_lim_isSquare__lim_isNet_local : EntryLocal R_lim_isSquare__lim_isNet.2 := entry_local (S := fun k (d : AD as_lim_isSquare__lim_isNet) => lim_isSquare__lim_isNet k d.1 d.2.1)

/-! ### giro/lim.isTurned -/
noncomputable def E_lim_isTurned : Env := ⟨Proofs.Try.prog, fun _ => false, sumsOf []⟩
def I_lim_isTurned_L1 : Spec := ⟨[(0, .c (.dat false (.sl (.int .i64)))), (3, .c (.int .i64)), (7, .c (.dat false (.sl (.int .i64)))), (8, .c (.int .i64)), (9, .c (.int .i64)), (14, .c (.dat false (.int .i64))), (15, .c (.int .i64)), (16, .c (.int .i64))], [], []⟩
def O_lim_isTurned_L1 : List (Ex × Spec) := [(.exit 2, ⟨[(0, .c (.dat false (.sl (.int .i64)))), (7, .c (.dat false (.sl (.int .i64)))), (8, .c (.int .i64)), (9, .c (.int .i64))], [], []⟩), (.ret, ⟨[(2, .c (.bool))], [], []⟩)]
def T_lim_isTurned_L1 : OutD O_lim_isTurned_L1 → ((List (List Int)) × (List (List Int)) × Int × Int) ⊕ Bool
 | .inl d => .inl (d.1.1.1, d.1.2.1.1, d.1.2.2.1.1, d.1.2.2.2.1.1)
 | .inr d => .inr d.1.1.1
def e_lim_isTurned_L1 (base : Nat) (x : ((List (List Int)) × (List (List Int)) × Int × Int) ⊕ Bool) (R : Type) (K : Ex → St → Option R) : Option R := match x with
 | .inl x => K (.exit 2) (stOf base ⟨[(0, .c (.dat false (.sl (.int .i64)))), (7, .c (.dat false (.sl (.int .i64)))), (8, .c (.int .i64)), (9, .c (.int .i64))], [], []⟩ (((x.1, ()), (x.2.1, ()), (x.2.2.1, ()), (x.2.2.2, ()), ()), ()))
 | .inr x => K .ret (stOf base ⟨[(2, .c (.bool))], [], []⟩ (((x, ()), ()), ()))
def L_lim_isTurned_L1 : LoopSum := ⟨I_lim_isTurned_L1, O_lim_isTurned_L1, ((List (List Int)) × (List (List Int)) × Int × Int) ⊕ Bool, fun k d => lim_isTurned_L1 k k d.1.1.1 d.1.2.1.1 d.1.2.2.1.1 d.1.2.2.2.1.1 d.1.2.2.2.2.1.1 d.1.2.2.2.2.2.1.1 d.1.2.2.2.2.2.2.1.1 d.1.2.2.2.2.2.2.2.1.1, e_lim_isTurned_L1⟩
def I_lim_isTurned_L0 : Spec := ⟨[(0, .c (.dat false (.sl (.int .i64)))), (7, .c (.dat false (.sl (.int .i64)))), (8, .c (.int .i64)), (9, .c (.int .i64))], [], []⟩
def O_lim_isTurned_L0 : List (Ex × Spec) := [(.exit 0, ⟨[], [], []⟩), (.ret, ⟨[(2, .c (.bool))], [], []⟩)]
def T_lim_isTurned_L0 : OutD O_lim_isTurned_L0 → Unit ⊕ Bool
 | .inl d => .inl ()
 | .inr d => .inr d.1.1.1
def e_lim_isTurned_L0 (base : Nat) (x : Unit ⊕ Bool) (R : Type) (K : Ex → St → Option R) : Option R := match x with
 | .inl x => K (.exit 0) (stOf base ⟨[], [], []⟩ ((), ()))
 | .inr x => K .ret (stOf base ⟨[(2, .c (.bool))], [], []⟩ (((x, ()), ()), ()))
def L_lim_isTurned_L0 : LoopSum := ⟨I_lim_isTurned_L0, O_lim_isTurned_L0, Unit ⊕ Bool, fun k d => lim_isTurned_L0 k k d.1.1.1 d.1.2.1.1 d.1.2.2.1.1 d.1.2.2.2.1.1, e_lim_isTurned_L0⟩
def A_lim_isTurned : Notes := ⟨[], [(5, L_lim_isTurned_L1), (2, L_lim_isTurned_L0)]⟩
theorem E_lim_isTurned_ok : EnvOK E_lim_isTurned := ⟨eqOK_none, sumsOf_ok (List.forall_mem_nil _)⟩
theorem E_lim_isTurned_local : SumsLocal E_lim_isTurned.sums := sumsOf_local (List.forall_mem_nil _)
theorem lim_isTurned_L1_step (k : Nat) (rec : List (List Int) → Int → List (List Int) → Int → Int → List Int → Int → Int → Option (((List (List Int)) × (List (List Int)) × Int × Int) ⊕ Bool)) (d : I_lim_isTurned_L1.den) : lim_isTurned_L1b k rec d.1.1.1 d.1.2.1.1 d.1.2.2.1.1 d.1.2.2.2.1.1 d.1.2.2.2.2.1.1 d.1.2.2.2.2.2.1.1 d.1.2.2.2.2.2.2.1.1 d.1.2.2.2.2.2.2.2.1.1 = evC E_lim_isTurned A_lim_isTurned k 1000 0 33 (loopAt (loopAt (bodyOf Proofs.Try.f50) 0) 0) (stOf (1000 + loopBase) I_lim_isTurned_L1 d) (roundK 1000 I_lim_isTurned_L1 O_lim_isTurned_L1 T_lim_isTurned_L1 fun d => rec d.1.1.1 d.1.2.1.1 d.1.2.2.1.1 d.1.2.2.2.1.1 d.1.2.2.2.2.1.1 d.1.2.2.2.2.2.1.1 d.1.2.2.2.2.2.2.1.1 d.1.2.2.2.2.2.2.2.1.1) := by
  obtain ⟨⟨⟨_, _⟩, ⟨_, _⟩, ⟨_, _⟩, ⟨_, _⟩, ⟨_, _⟩, ⟨_, _⟩, ⟨_, _⟩, ⟨_, _⟩, _⟩, _⟩ := d
  kernel_rfl
theorem lim_isTurned_L1_ok : LoopOK Proofs.Try.prog 1000 0 33 (loopAt (loopAt (bodyOf Proofs.Try.f50) 0) 0) L_lim_isTurned_L1 :=
  loop_sound (A := A_lim_isTurned) (inS := I_lim_isTurned_L1) (outs := O_lim_isTurned_L1) E_lim_isTurned_ok E_lim_isTurned_local mixed_orders (loopsOK_none (by kernel_rfl)) T_lim_isTurned_L1 e_lim_isTurned_L1 (by intro o R K; rcases o with o | o <;> rfl) (fun k n d => lim_isTurned_L1 k n d.1.1.1 d.1.2.1.1 d.1.2.2.1.1 d.1.2.2.2.1.1 d.1.2.2.2.2.1.1 d.1.2.2.2.2.2.1.1 d.1.2.2.2.2.2.2.1.1 d.1.2.2.2.2.2.2.2.1.1) (fun _ _ => rfl) (fun k n d => lim_isTurned_L1_step k (lim_isTurned_L1 k n) d)
theorem lim_isTurned_L0_step (k : Nat) (rec : List (List Int) → List (List Int) → Int → Int → Option (Unit ⊕ Bool)) (d : I_lim_isTurned_L0.den) : lim_isTurned_L0b k rec d.1.1.1 d.1.2.1.1 d.1.2.2.1.1 d.1.2.2.2.1.1 = evC E_lim_isTurned A_lim_isTurned k 1000 0 33 (loopAt (bodyOf Proofs.Try.f50) 0) (stOf (1000 + loopBase) I_lim_isTurned_L0 d) (roundK 1000 I_lim_isTurned_L0 O_lim_isTurned_L0 T_lim_isTurned_L0 fun d => rec d.1.1.1 d.1.2.1.1 d.1.2.2.1.1 d.1.2.2.2.1.1) := by
  obtain ⟨⟨⟨_, _⟩, ⟨_, _⟩, ⟨_, _⟩, ⟨_, _⟩, _⟩, _⟩ := d
  kernel_rfl
theorem lim_isTurned_L0_ok : LoopOK Proofs.Try.prog 1000 0 33 (loopAt (bodyOf Proofs.Try.f50) 0) L_lim_isTurned_L0 :=
  loop_sound (A := A_lim_isTurned) (inS := I_lim_isTurned_L0) (outs := O_lim_isTurned_L0) E_lim_isTurned_ok E_lim_isTurned_local mixed_orders (loopsOK_of (n := 1) (by kernel_rfl) fun i hi => match i, hi with | 0, _ => ⟨L_lim_isTurned_L1, by kernel_rfl, lim_isTurned_L1_ok⟩ | i + 1, hi => absurd hi (by omega)) T_lim_isTurned_L0 e_lim_isTurned_L0 (by intro o R K; rcases o with o | o <;> rfl) (fun k n d => lim_isTurned_L0 k n d.1.1.1 d.1.2.1.1 d.1.2.2.1.1 d.1.2.2.2.1.1) (fun _ _ => rfl) (fun k n d => lim_isTurned_L0_step k (lim_isTurned_L0 k n) d)
def as_lim_isTurned : List AS := [.c (.dat false (.sl (.int .i64)))]
def rs_lim_isTurned : RS := .c (.bool)
def pk_lim_isTurned : Bool → RL rs_lim_isTurned.cells := fun x => (x, ())
def up_lim_isTurned : RL rs_lim_isTurned.cells → Bool := fun d => d.1
def R_lim_isTurned : Nat × Entry := (50, fun k nm args h => entry as_lim_isTurned rs_lim_isTurned (fun d => lim_isTurned k d.1) pk_lim_isTurned nm args h)
theorem lim_isTurned_ev (k : Nat) (d : AD as_lim_isTurned) : evF E_lim_isTurned A_lim_isTurned k 1000 0 Proofs.Try.f50 (absArgs as_lim_isTurned d).1 (absArgs as_lim_isTurned d).2 (outM rs_lim_isTurned up_lim_isTurned) = lim_isTurned k d.1 := by
  obtain ⟨_, _⟩ := d
  kernel_rfl
theorem R_lim_isTurned_ok : EntryOK Proofs.Try.prog R_lim_isTurned := fun k _ _ _ _ _ hy =>
  entry_sound (unpack := up_lim_isTurned) (A := A_lim_isTurned) (k := k) (pre := 1000) (na := 0) (E := E_lim_isTurned) E_lim_isTurned_ok E_lim_isTurned_local mixed_orders (f := 50) (fn := Proofs.Try.f50) (by kernel_rfl) (body_loops (loopsOK_of (n := 1) (by kernel_rfl) fun i hi => match i, hi with | 0, _ => ⟨L_lim_isTurned_L0, by kernel_rfl, lim_isTurned_L0_ok⟩ | i + 1, hi => absurd hi (by omega))) (enters (fn := Proofs.Try.f50) (by kernel_rfl) (by kernel_rfl) (by kernel_rfl)) (fun _ => rfl) (lim_isTurned_ev k) hy
theorem R_lim_isTurned_local : EntryLocal R_lim_isTurned.2 := entry_local (S := fun k (d : AD as_lim_isTurned) => lim_isTurned k d.1)

/-! ### giro/lim.Is -/
noncomputable def E_lim_Is : Env := ⟨Proofs.Try.prog, fun _ => false, sumsOf [R_slices_ContainsFunc_Acct__lim_Is_fn1, R_lim_isSquare__lim_isLimit, R_lim_isRow__lim_isLimit, R_lim_isSquare__lim_isNet, R_lim_isTurned]⟩
def A_lim_Is : Notes := ⟨[], []⟩
theorem E_lim_Is_ok : EnvOK E_lim_Is := ⟨eqOK_none, sumsOf_ok (List.forall_mem_cons.2 ⟨R_slices_ContainsFunc_Acct__lim_Is_fn1_ok, List.forall_mem_cons.2 ⟨R_lim_isSquare__lim_isLimit_ok, List.forall_mem_cons.2 ⟨R_lim_isRow__lim_isLimit_ok, List.forall_mem_cons.2 ⟨R_lim_isSquare__lim_isNet_ok, List.forall_mem_cons.2 ⟨R_lim_isTurned_ok, List.forall_mem_nil _⟩⟩⟩⟩⟩)⟩
theorem E_lim_Is_local : SumsLocal E_lim_Is.sums := sumsOf_local (List.forall_mem_cons.2 ⟨R_slices_ContainsFunc_Acct__lim_Is_fn1_local, List.forall_mem_cons.2 ⟨R_lim_isSquare__lim_isLimit_local, List.forall_mem_cons.2 ⟨R_lim_isRow__lim_isLimit_local, List.forall_mem_cons.2 ⟨R_lim_isSquare__lim_isNet_local, List.forall_mem_cons.2 ⟨R_lim_isTurned_local, List.forall_mem_nil _⟩⟩⟩⟩⟩)
def as_lim_Is : List AS := [.agg [.dat false (.pair (.int .i64) (.pair (.int .i64) (.int .i64))), .dat false (.sl (.int .i64)), .dat false (.int .i64), .dat false (.sl (.int .i64))]]
def rs_lim_Is : RS := .c (.bool)
def pk_lim_Is : Bool → RL rs_lim_Is.cells := fun x => (x, ())
def up_lim_Is : RL rs_lim_Is.cells → Bool := fun d => d.1
def R_lim_Is : Nat × Entry := (29, fun k nm args h => entry as_lim_Is rs_lim_Is (fun d => lim_Is k d.1 d.2.1 d.2.2.1 d.2.2.2.1) pk_lim_Is nm args h)
theorem lim_Is_ev (k : Nat) (d : AD as_lim_Is) : evF E_lim_Is A_lim_Is k 1000 0 Proofs.Try.f29 (absArgs as_lim_Is d).1 (absArgs as_lim_Is d).2 (outM rs_lim_Is up_lim_Is) = lim_Is k d.1 d.2.1 d.2.2.1 d.2.2.2.1 := by
  obtain ⟨_, _, _, _, _⟩ := d
  kernel_rfl
theorem R_lim_Is_ok : EntryOK Proofs.Try.prog R_lim_Is := fun k _ _ _ _ _ hy =>
  entry_sound (unpack := up_lim_Is) (A := A_lim_Is) (k := k) (pre := 1000) (na := 0) (E := E_lim_Is) E_lim_Is_ok E_lim_Is_local mixed_orders (f := 29) (fn := Proofs.Try.f29) (by kernel_rfl) (body_loops (loopsOK_none (by kernel_rfl))) (enters (fn := Proofs.Try.f29) (by kernel_rfl) (by kernel_rfl) (by kernel_rfl)) (fun _ => rfl) (lim_Is_ev k) hy
theorem R_lim_Is_local : EntryLocal R_lim_Is.2 := entry_local (S := fun k (d : AD as_lim_Is) => lim_Is k d.1 d.2.1 d.2.2.1 d.2.2.2.1)

/-! ### giro/post.Post -/
noncomputable def E_post_Post : Env := ⟨Proofs.Try.prog, fun _ => false, sumsOf [R_slices_ContainsFunc_Pay__post_Post_fn1, R_lim_Copy, R_acct_Kept, R_lim_Is]⟩
def I_post_Post_L0 : Spec := ⟨[(2, .c (.lit (.ptr 1001000 0))), (4, .c (.lit (.ptr 1001001 0))), (7, .c (.lit (.ptr 1001002 0))), (24, .c (.dat false (.pair (.int .i64) (.pair (.int .i64) (.pair (.int .i64) (.pair (.int .i64) (.pair (.int .i64) (.pair (.int .i64) (.int .i64))))))))), (25, .c (.int .i64)), (26, .c (.int .i64))], [.box true [.dat true (.pair (.int .i64) (.pair (.int .i64) (.int .i64))), .dat true (.sl (.int .i64)), .dat true (.int .i64), .dat true (.sl (.int .i64))], .box true [.lit .nsl, .lit .nsl, .lit .nsl, .lit .nsl], .box true [.lit (.osl 1001003 none), .lit (.osl 1001004 none), .lit (.osl 1001005 none), .lit (.osl 1001006 none)], .arr true (.pair (.int .i64) (.pair (.int .i64) (.int .i64))), .mat, .arr true (.int .i64), .mat], []⟩
def O_post_Post_L0 : List (Ex × Spec) := [(.exit 0, ⟨[(2, .c (.lit (.ptr 1001000 0))), (4, .c (.lit (.ptr 1001001 0))), (7, .c (.lit (.ptr 1001002 0)))], [.box true [.dat true (.pair (.int .i64) (.pair (.int .i64) (.int .i64))), .dat true (.sl (.int .i64)), .dat true (.int .i64), .dat true (.sl (.int .i64))], .box true [.lit .nsl, .lit .nsl, .lit .nsl, .lit .nsl], .box true [.lit (.osl 1001003 none), .lit (.osl 1001004 none), .lit (.osl 1001005 none), .lit (.osl 1001006 none)], .arr true (.pair (.int .i64) (.pair (.int .i64) (.int .i64))), .mat, .arr true (.int .i64), .mat], []⟩)]
def T_post_Post_L0 : OutD O_post_Post_L0 → (List (Int × Int × Int)) × (List (List Int)) × (List Int) × (List (List Int)) × (List (Int × Int × Int)) × (List (List Int)) × (List Int) × (List (List Int)) := fun d => (d.2.1.1, d.2.1.2.1, d.2.1.2.2.1, d.2.1.2.2.2.1, d.2.2.2.2.1, d.2.2.2.2.2.1, d.2.2.2.2.2.2.1, d.2.2.2.2.2.2.2.1)
def e_post_Post_L0 (base : Nat) (x : (List (Int × Int × Int)) × (List (List Int)) × (List Int) × (List (List Int)) × (List (Int × Int × Int)) × (List (List Int)) × (List Int) × (List (List Int))) (R : Type) (K : Ex → St → Option R) : Option R := K (.exit 0) (stOf base ⟨[(2, .c (.lit (.ptr 1001000 0))), (4, .c (.lit (.ptr 1001001 0))), (7, .c (.lit (.ptr 1001002 0)))], [.box true [.dat true (.pair (.int .i64) (.pair (.int .i64) (.int .i64))), .dat true (.sl (.int .i64)), .dat true (.int .i64), .dat true (.sl (.int .i64))], .box true [.lit .nsl, .lit .nsl, .lit .nsl, .lit .nsl], .box true [.lit (.osl 1001003 none), .lit (.osl 1001004 none), .lit (.osl 1001005 none), .lit (.osl 1001006 none)], .arr true (.pair (.int .i64) (.pair (.int .i64) (.int .i64))), .mat, .arr true (.int .i64), .mat], []⟩ (((), (), (), ()), ((x.1, x.2.1, x.2.2.1, x.2.2.2.1, ()), (), (), x.2.2.2.2.1, x.2.2.2.2.2.1, x.2.2.2.2.2.2.1, x.2.2.2.2.2.2.2, ())))
def L_post_Post_L0 : LoopSum := ⟨I_post_Post_L0, O_post_Post_L0, (List (Int × Int × Int)) × (List (List Int)) × (List Int) × (List (List Int)) × (List (Int × Int × Int)) × (List (List Int)) × (List Int) × (List (List Int)), fun k d => post_Post_L0 k k d.1.2.2.2.1.1 d.1.2.2.2.2.1.1 d.1.2.2.2.2.2.1.1 d.2.1.1 d.2.1.2.1 d.2.1.2.2.1 d.2.1.2.2.2.1 d.2.2.2.2.1 d.2.2.2.2.2.1 d.2.2.2.2.2.2.1 d.2.2.2.2.2.2.2.1, e_post_Post_L0⟩
def A_post_Post : Notes := ⟨[], [(6, L_post_Post_L0)]⟩
theorem E_post_Post_ok : EnvOK E_post_Post := ⟨eqOK_none, sumsOf_ok (List.forall_mem_cons.2 ⟨R_slices_ContainsFunc_Pay__post_Post_fn1_ok, List.forall_mem_cons.2 ⟨R_lim_Copy_ok, List.forall_mem_cons.2 ⟨R_acct_Kept_ok, List.forall_mem_cons.2 ⟨R_lim_Is_ok, List.forall_mem_nil _⟩⟩⟩⟩)⟩
theorem E_post_Post_local : SumsLocal E_post_Post.sums := sumsOf_local (List.forall_mem_cons.2 ⟨R_slices_ContainsFunc_Pay__post_Post_fn1_local, List.forall_mem_cons.2 ⟨R_lim_Copy_local, List.forall_mem_cons.2 ⟨R_acct_Kept_local, List.forall_mem_cons.2 ⟨R_lim_Is_local, List.forall_mem_nil _⟩⟩⟩⟩)
theorem post_Post_L0_step (k : Nat) (rec : List (Int × Int × Int × Int × Int × Int × Int) → Int → Int → List (Int × Int × Int) → List (List Int) → List Int → List (List Int) → List (Int × Int × Int) → List (List Int) → List Int → List (List Int) → Option ((List (Int × Int × Int)) × (List (List Int)) × (List Int) × (List (List Int)) × (List (Int × Int × Int)) × (List (List Int)) × (List Int) × (List (List Int)))) (d : I_post_Post_L0.den) : post_Post_L0b k rec d.1.2.2.2.1.1 d.1.2.2.2.2.1.1 d.1.2.2.2.2.2.1.1 d.2.1.1 d.2.1.2.1 d.2.1.2.2.1 d.2.1.2.2.2.1 d.2.2.2.2.1 d.2.2.2.2.2.1 d.2.2.2.2.2.2.1 d.2.2.2.2.2.2.2.1 = evC E_post_Post A_post_Post k 1000 0 104 (loopAt (bodyOf Proofs.Try.f11) 0) (stOf (1000 + loopBase) I_post_Post_L0 d) (roundK 1000 I_post_Post_L0 O_post_Post_L0 T_post_Post_L0 fun d => rec d.1.2.2.2.1.1 d.1.2.2.2.2.1.1 d.1.2.2.2.2.2.1.1 d.2.1.1 d.2.1.2.1 d.2.1.2.2.1 d.2.1.2.2.2.1 d.2.2.2.2.1 d.2.2.2.2.2.1 d.2.2.2.2.2.2.1 d.2.2.2.2.2.2.2.1) := by
  obtain ⟨⟨_, _, _, ⟨_, _⟩, ⟨_, _⟩, ⟨_, _⟩, _⟩, ⟨⟨_, _, _, _, _⟩, _, _, _, _, _, _, _⟩⟩ := d
  kernel_rfl
theorem post_Post_L0_ok : LoopOK Proofs.Try.prog 1000 0 104 (loopAt (bodyOf Proofs.Try.f11) 0) L_post_Post_L0 :=
  loop_sound (A := A_post_Post) (inS := I_post_Post_L0) (outs := O_post_Post_L0) E_post_Post_ok E_post_Post_local mixed_orders (loopsOK_none (by kernel_rfl)) T_post_Post_L0 e_post_Post_L0 (fun _ _ _ => rfl) (fun k n d => post_Post_L0 k n d.1.2.2.2.1.1 d.1.2.2.2.2.1.1 d.1.2.2.2.2.2.1.1 d.2.1.1 d.2.1.2.1 d.2.1.2.2.1 d.2.1.2.2.2.1 d.2.2.2.2.1 d.2.2.2.2.2.1 d.2.2.2.2.2.2.1 d.2.2.2.2.2.2.2.1) (fun _ _ => rfl) (fun k n d => post_Post_L0_step k (post_Post_L0 k n) d)
def as_post_Post : List AS := [.agg [.dat true (.pair (.int .i64) (.pair (.int .i64) (.int .i64))), .dat true (.sl (.int .i64)), .dat true (.int .i64), .dat true (.sl (.int .i64))], .c (.dat false (.pair (.int .i64) (.pair (.int .i64) (.pair (.int .i64) (.pair (.int .i64) (.pair (.int .i64) (.pair (.int .i64) (.int .i64))))))))]
def rs_post_Post : RS := .tup [(true, [.fro (.pair (.int .i64) (.pair (.int .i64) (.int .i64))), .fro (.sl (.int .i64)), .fro (.int .i64), .fro (.sl (.int .i64))]), (false, [.int .i64])]
def pk_post_Post : (List (Int × Int × Int)) × (List (List Int)) × (List Int) × (List (List Int)) × Int → RL rs_post_Post.cells := fun x => (x.1, x.2.1, x.2.2.1, x.2.2.2.1, x.2.2.2.2, ())
def up_post_Post : RL rs_post_Post.cells → (List (Int × Int × Int)) × (List (List Int)) × (List Int) × (List (List Int)) × Int := fun d => (d.1, d.2.1, d.2.2.1, d.2.2.2.1, d.2.2.2.2.1)
def R_post_Post : Nat × Entry := (11, fun k nm args h => entry as_post_Post rs_post_Post (fun d => post_Post k d.1 d.2.1 d.2.2.1 d.2.2.2.1 d.2.2.2.2.1) pk_post_Post nm args h)
theorem post_Post_ev (k : Nat) (d : AD as_post_Post) : evF E_post_Post A_post_Post k 1000 0 Proofs.Try.f11 (absArgs as_post_Post d).1 (absArgs as_post_Post d).2 (outM rs_post_Post up_post_Post) = post_Post k d.1 d.2.1 d.2.2.1 d.2.2.2.1 d.2.2.2.2.1 := by
  obtain ⟨_, _, _, _, _, _⟩ := d
  kernel_rfl
theorem R_post_Post_ok : EntryOK Proofs.Try.prog R_post_Post := fun k _ _ _ _ _ hy =>
  entry_sound (unpack := up_post_Post) (A := A_post_Post) (k := k) (pre := 1000) (na := 0) (E := E_post_Post) E_post_Post_ok E_post_Post_local mixed_orders (f := 11) (fn := Proofs.Try.f11) (by kernel_rfl) (body_loops (loopsOK_of (n := 1) (by kernel_rfl) fun i hi => match i, hi with | 0, _ => ⟨L_post_Post_L0, by kernel_rfl, post_Post_L0_ok⟩ | i + 1, hi => absurd hi (by omega))) (enters (fn := Proofs.Try.f11) (by kernel_rfl) (by kernel_rfl) (by kernel_rfl)) (fun _ => rfl) (post_Post_ev k) hy
theorem R_post_Post_local : EntryLocal R_post_Post.2 := entry_local (S := fun k (d : AD as_post_Post) => post_Post k d.1 d.2.1 d.2.2.1 d.2.2.2.1 d.2.2.2.2.1)

/-! ### giro/giroref2.Same -/
noncomputable def E_giroref2_Same : Env := ⟨Proofs.Try.prog, fun _ => false, sumsOf []⟩
def I_giroref2_Same_L0 : Spec := ⟨[(0, .c (.dat false (.int .i64))), (1, .c (.dat false (.int .i64))), (5, .c (.int .i64))], [], []⟩
def O_giroref2_Same_L0 : List (Ex × Spec) := [(.exit 0, ⟨[], [], []⟩), (.ret, ⟨[(4, .c (.bool))], [], []⟩)]
def T_giroref2_Same_L0 : OutD O_giroref2_Same_L0 → Unit ⊕ Bool
 | .inl d => .inl ()
 | .inr d => .inr d.1.1.1
def e_giroref2_Same_L0 (base : Nat) (x : Unit ⊕ Bool) (R : Type) (K : Ex → St → Option R) : Option R := match x with
 | .inl x => K (.exit 0) (stOf base ⟨[], [], []⟩ ((), ()))
 | .inr x => K .ret (stOf base ⟨[(4, .c (.bool))], [], []⟩ (((x, ()), ()), ()))
def L_giroref2_Same_L0 : LoopSum := ⟨I_giroref2_Same_L0, O_giroref2_Same_L0, Unit ⊕ Bool, fun k d => giroref2_Same_L0 k k d.1.1.1 d.1.2.1.1 d.1.2.2.1.1, e_giroref2_Same_L0⟩
def A_giroref2_Same : Notes := ⟨[], [(4, L_giroref2_Same_L0)]⟩
theorem E_giroref2_Same_ok : EnvOK E_giroref2_Same := ⟨eqOK_none, sumsOf_ok (List.forall_mem_nil _)⟩
theorem E_giroref2_Same_local : SumsLocal E_giroref2_Same.sums := sumsOf_local (List.forall_mem_nil _)
theorem giroref2_Same_L0_step (k : Nat) (rec : List Int → List Int → Int → Option (Unit ⊕ Bool)) (d : I_giroref2_Same_L0.den) : giroref2_Same_L0b k rec d.1.1.1 d.1.2.1.1 d.1.2.2.1.1 = evC E_giroref2_Same A_giroref2_Same k 1000 0 26 (loopAt (bodyOf Proofs.Try.f35) 0) (stOf (1000 + loopBase) I_giroref2_Same_L0 d) (roundK 1000 I_giroref2_Same_L0 O_giroref2_Same_L0 T_giroref2_Same_L0 fun d => rec d.1.1.1 d.1.2.1.1 d.1.2.2.1.1) := by
  obtain ⟨⟨⟨_, _⟩, ⟨_, _⟩, ⟨_, _⟩, _⟩, _⟩ := d
  kernel_rfl
theorem giroref2_Same_L0_ok : LoopOK Proofs.Try.prog 1000 0 26 (loopAt (bodyOf Proofs.Try.f35) 0) L_giroref2_Same_L0 :=
  loop_sound (A := A_giroref2_Same) (inS := I_giroref2_Same_L0) (outs := O_giroref2_Same_L0) E_giroref2_Same_ok E_giroref2_Same_local mixed_orders (loopsOK_none (by kernel_rfl)) T_giroref2_Same_L0 e_giroref2_Same_L0 (by intro o R K; rcases o with o | o <;> rfl) (fun k n d => giroref2_Same_L0 k n d.1.1.1 d.1.2.1.1 d.1.2.2.1.1) (fun _ _ => rfl) (fun k n d => giroref2_Same_L0_step k (giroref2_Same_L0 k n) d)
def as_giroref2_Same : List AS := [.c (.dat false (.int .i64)), .c (.dat false (.int .i64))]
def rs_giroref2_Same : RS := .c (.bool)
def pk_giroref2_Same : Bool → RL rs_giroref2_Same.cells := fun x => (x, ())
def up_giroref2_Same : RL rs_giroref2_Same.cells → Bool := fun d => d.1
def R_giroref2_Same : Nat × Entry := (35, fun k nm args h => entry as_giroref2_Same rs_giroref2_Same (fun d => giroref2_Same k d.1 d.2.1) pk_giroref2_Same nm args h)
theorem giroref2_Same_ev (k : Nat) (d : AD as_giroref2_Same) : evF E_giroref2_Same A_giroref2_Same k 1000 0 Proofs.Try.f35 (absArgs as_giroref2_Same d).1 (absArgs as_giroref2_Same d).2 (outM rs_giroref2_Same up_giroref2_Same) = giroref2_Same k d.1 d.2.1 := by
  obtain ⟨_, _, _⟩ := d
  kernel_rfl
theorem R_giroref2_Same_ok : EntryOK Proofs.Try.prog R_giroref2_Same := fun k _ _ _ _ _ hy =>
  entry_sound (unpack := up_giroref2_Same) (A := A_giroref2_Same) (k := k) (pre := 1000) (na := 0) (E := E_giroref2_Same) E_giroref2_Same_ok E_giroref2_Same_local mixed_orders (f := 35) (fn := Proofs.Try.f35) (by kernel_rfl) (body_loops (loopsOK_of (n := 1) (by kernel_rfl) fun i hi => match i, hi with | 0, _ => ⟨L_giroref2_Same_L0, by kernel_rfl, giroref2_Same_L0_ok⟩ | i + 1, hi => absurd hi (by omega))) (enters (fn := Proofs.Try.f35) (by kernel_rfl) (by kernel_rfl) (by kernel_rfl)) (fun _ => rfl) (giroref2_Same_ev k) hy
theorem R_giroref2_Same_local : EntryLocal R_giroref2_Same.2 := entry_local (S := fun k (d : AD as_giroref2_Same) => giroref2_Same k d.1 d.2.1)

/-! ### giro/giroref10.Rows -/
noncomputable def E_giroref10_Rows : Env := ⟨Proofs.Try.prog, fun _ => false, sumsOf [R_giroref2_Same]⟩
def I_giroref10_Rows_L0 : Spec := ⟨[(0, .c (.dat false (.sl (.int .i64)))), (1, .c (.dat false (.sl (.int .i64)))), (5, .c (.int .i64))], [], []⟩
def O_giroref10_Rows_L0 : List (Ex × Spec) := [(.exit 0, ⟨[], [], []⟩), (.ret, ⟨[(4, .c (.bool))], [], []⟩)]
def T_giroref10_Rows_L0 : OutD O_giroref10_Rows_L0 → Unit ⊕ Bool
 | .inl d => .inl ()
 | .inr d => .inr d.1.1.1
def e_giroref10_Rows_L0 (base : Nat) (x : Unit ⊕ Bool) (R : Type) (K : Ex → St → Option R) : Option R := match x with
 | .inl x => K (.exit 0) (stOf base ⟨[], [], []⟩ ((), ()))
 | .inr x => K .ret (stOf base ⟨[(4, .c (.bool))], [], []⟩ (((x, ()), ()), ()))
def L_giroref10_Rows_L0 : LoopSum := ⟨I_giroref10_Rows_L0, O_giroref10_Rows_L0, Unit ⊕ Bool, fun k d => giroref10_Rows_L0 k k d.1.1.1 d.1.2.1.1 d.1.2.2.1.1, e_giroref10_Rows_L0⟩
def A_giroref10_Rows : Notes := ⟨[], [(4, L_giroref10_Rows_L0)]⟩
theorem E_giroref10_Rows_ok : EnvOK E_giroref10_Rows := ⟨eqOK_none, sumsOf_ok (List.forall_mem_cons.2 ⟨R_giroref2_Same_ok, List.forall_mem_nil _⟩)⟩
theorem E_giroref10_Rows_local : SumsLocal E_giroref10_Rows.sums := sumsOf_local (List.forall_mem_cons.2 ⟨R_giroref2_Same_local, List.forall_mem_nil _⟩)
theorem giroref10_Rows_L0_step (k : Nat) (rec : List (List Int) → List (List Int) → Int → Option (Unit ⊕ Bool)) (d : I_giroref10_Rows_L0.den) : giroref10_Rows_L0b k rec d.1.1.1 d.1.2.1.1 d.1.2.2.1.1 = evC E_giroref10_Rows A_giroref10_Rows k 1000 0 27 (loopAt (bodyOf Proofs.Try.f34) 0) (stOf (1000 + loopBase) I_giroref10_Rows_L0 d) (roundK 1000 I_giroref10_Rows_L0 O_giroref10_Rows_L0 T_giroref10_Rows_L0 fun d => rec d.1.1.1 d.1.2.1.1 d.1.2.2.1.1) := by
  obtain ⟨⟨⟨_, _⟩, ⟨_, _⟩, ⟨_, _⟩, _⟩, _⟩ := d
  kernel_rfl
theorem giroref10_Rows_L0_ok : LoopOK Proofs.Try.prog 1000 0 27 (loopAt (bodyOf Proofs.Try.f34) 0) L_giroref10_Rows_L0 :=
  loop_sound (A := A_giroref10_Rows) (inS := I_giroref10_Rows_L0) (outs := O_giroref10_Rows_L0) E_giroref10_Rows_ok E_giroref10_Rows_local mixed_orders (loopsOK_none (by kernel_rfl)) T_giroref10_Rows_L0 e_giroref10_Rows_L0 (by intro o R K; rcases o with o | o <;> rfl) (fun k n d => giroref10_Rows_L0 k n d.1.1.1 d.1.2.1.1 d.1.2.2.1.1) (fun _ _ => rfl) (fun k n d => giroref10_Rows_L0_step k (giroref10_Rows_L0 k n) d)
def as_giroref10_Rows : List AS := [.c (.dat false (.sl (.int .i64))), .c (.dat false (.sl (.int .i64)))]
def rs_giroref10_Rows : RS := .c (.bool)
def pk_giroref10_Rows : Bool → RL rs_giroref10_Rows.cells := fun x => (x, ())
def up_giroref10_Rows : RL rs_giroref10_Rows.cells → Bool := fun d => d.1
def R_giroref10_Rows : Nat × Entry := (34, fun k nm args h => entry as_giroref10_Rows rs_giroref10_Rows (fun d => giroref10_Rows k d.1 d.2.1) pk_giroref10_Rows nm args h)
theorem giroref10_Rows_ev (k : Nat) (d : AD as_giroref10_Rows) : evF E_giroref10_Rows A_giroref10_Rows k 1000 0 Proofs.Try.f34 (absArgs as_giroref10_Rows d).1 (absArgs as_giroref10_Rows d).2 (outM rs_giroref10_Rows up_giroref10_Rows) = giroref10_Rows k d.1 d.2.1 := by
  obtain ⟨_, _, _⟩ := d
  kernel_rfl
theorem R_giroref10_Rows_ok : EntryOK Proofs.Try.prog R_giroref10_Rows := fun k _ _ _ _ _ hy =>
  entry_sound (unpack := up_giroref10_Rows) (A := A_giroref10_Rows) (k := k) (pre := 1000) (na := 0) (E := E_giroref10_Rows) E_giroref10_Rows_ok E_giroref10_Rows_local mixed_orders (f := 34) (fn := Proofs.Try.f34) (by kernel_rfl) (body_loops (loopsOK_of (n := 1) (by kernel_rfl) fun i hi => match i, hi with | 0, _ => ⟨L_giroref10_Rows_L0, by kernel_rfl, giroref10_Rows_L0_ok⟩ | i + 1, hi => absurd hi (by omega))) (enters (fn := Proofs.Try.f34) (by kernel_rfl) (by kernel_rfl) (by kernel_rfl)) (fun _ => rfl) (giroref10_Rows_ev k) hy
theorem R_giroref10_Rows_local : EntryLocal R_giroref10_Rows.2 := entry_local (S := fun k (d : AD as_giroref10_Rows) => giroref10_Rows k d.1 d.2.1)

/-! ### giro/giroref10.Same -/
noncomputable def E_giroref10_Same : Env := ⟨Proofs.Try.prog, fun t => [39].any (Nat.beq t), sumsOf [R_giroref10_Rows, R_giroref2_Same]⟩
def I_giroref10_Same_L0 : Spec := ⟨[(2, .c (.lit (.ptr 1001000 0))), (3, .c (.lit (.ptr 1001001 0))), (5, .c (.int .i64))], [.box true [.dat false (.pair (.int .i64) (.pair (.int .i64) (.int .i64))), .dat false (.sl (.int .i64)), .dat false (.int .i64), .dat false (.sl (.int .i64))], .box true [.dat false (.pair (.int .i64) (.pair (.int .i64) (.int .i64))), .dat false (.sl (.int .i64)), .dat false (.int .i64), .dat false (.sl (.int .i64))]], []⟩
def O_giroref10_Same_L0 : List (Ex × Spec) := [(.exit 0, ⟨[], [], []⟩), (.ret, ⟨[(4, .c (.bool))], [], []⟩)]
def T_giroref10_Same_L0 : OutD O_giroref10_Same_L0 → Unit ⊕ Bool
 | .inl d => .inl ()
 | .inr d => .inr d.1.1.1
def e_giroref10_Same_L0 (base : Nat) (x : Unit ⊕ Bool) (R : Type) (K : Ex → St → Option R) : Option R := match x with
 | .inl x => K (.exit 0) (stOf base ⟨[], [], []⟩ ((), ()))
 | .inr x => K .ret (stOf base ⟨[(4, .c (.bool))], [], []⟩ (((x, ()), ()), ()))
def L_giroref10_Same_L0 : LoopSum := ⟨I_giroref10_Same_L0, O_giroref10_Same_L0, Unit ⊕ Bool, fun k d => giroref10_Same_L0 k k d.1.2.2.1.1 d.2.1.1 d.2.1.2.1 d.2.1.2.2.1 d.2.1.2.2.2.1 d.2.2.1.1 d.2.2.1.2.1 d.2.2.1.2.2.1 d.2.2.1.2.2.2.1, e_giroref10_Same_L0⟩
def A_giroref10_Same : Notes := ⟨[], [(4, L_giroref10_Same_L0)]⟩
theorem E_giroref10_Same_ok : EnvOK E_giroref10_Same := ⟨eqOK_flat (fun t h => eqT_mem (p := fun t => !Proofs.Try.prog.stoodInHeld t && !Proofs.Try.prog.eqGuardType Proofs.Try.prog.depth t) (l := [39]) (List.forall_mem_cons.2 ⟨by kernel_rfl, List.forall_mem_nil _⟩) t h), sumsOf_ok (List.forall_mem_cons.2 ⟨R_giroref10_Rows_ok, List.forall_mem_cons.2 ⟨R_giroref2_Same_ok, List.forall_mem_nil _⟩⟩)⟩
theorem E_giroref10_Same_local : SumsLocal E_giroref10_Same.sums := sumsOf_local (List.forall_mem_cons.2 ⟨R_giroref10_Rows_local, List.forall_mem_cons.2 ⟨R_giroref2_Same_local, List.forall_mem_nil _⟩⟩)
theorem giroref10_Same_L0_step (k : Nat) (rec : Int → List (Int × Int × Int) → List (List Int) → List Int → List (List Int) → List (Int × Int × Int) → List (List Int) → List Int → List (List Int) → Option (Unit ⊕ Bool)) (d : I_giroref10_Same_L0.den) : giroref10_Same_L0b k rec d.1.2.2.1.1 d.2.1.1 d.2.1.2.1 d.2.1.2.2.1 d.2.1.2.2.2.1 d.2.2.1.1 d.2.2.1.2.1 d.2.2.1.2.2.1 d.2.2.1.2.2.2.1 = evC E_giroref10_Same A_giroref10_Same k 1000 0 55 (loopAt (bodyOf Proofs.Try.f13) 0) (stOf (1000 + loopBase) I_giroref10_Same_L0 d) (roundK 1000 I_giroref10_Same_L0 O_giroref10_Same_L0 T_giroref10_Same_L0 fun d => rec d.1.2.2.1.1 d.2.1.1 d.2.1.2.1 d.2.1.2.2.1 d.2.1.2.2.2.1 d.2.2.1.1 d.2.2.1.2.1 d.2.2.1.2.2.1 d.2.2.1.2.2.2.1) := by
  obtain ⟨⟨_, _, ⟨_, _⟩, _⟩, ⟨⟨_, _, _, _, _⟩, ⟨_, _, _, _, _⟩, _⟩⟩ := d
  kernel_rfl
theorem giroref10_Same_L0_ok : LoopOK Proofs.Try.prog 1000 0 55 (loopAt (bodyOf Proofs.Try.f13) 0) L_giroref10_Same_L0 :=
  loop_sound (A := A_giroref10_Same) (inS := I_giroref10_Same_L0) (outs := O_giroref10_Same_L0) E_giroref10_Same_ok E_giroref10_Same_local mixed_orders (loopsOK_none (by kernel_rfl)) T_giroref10_Same_L0 e_giroref10_Same_L0 (by intro o R K; rcases o with o | o <;> rfl) (fun k n d => giroref10_Same_L0 k n d.1.2.2.1.1 d.2.1.1 d.2.1.2.1 d.2.1.2.2.1 d.2.1.2.2.2.1 d.2.2.1.1 d.2.2.1.2.1 d.2.2.1.2.2.1 d.2.2.1.2.2.2.1) (fun _ _ => rfl) (fun k n d => giroref10_Same_L0_step k (giroref10_Same_L0 k n) d)
def as_giroref10_Same : List AS := [.agg [.dat false (.pair (.int .i64) (.pair (.int .i64) (.int .i64))), .dat false (.sl (.int .i64)), .dat false (.int .i64), .dat false (.sl (.int .i64))], .agg [.dat false (.pair (.int .i64) (.pair (.int .i64) (.int .i64))), .dat false (.sl (.int .i64)), .dat false (.int .i64), .dat false (.sl (.int .i64))]]
def rs_giroref10_Same : RS := .c (.bool)
def pk_giroref10_Same : Bool → RL rs_giroref10_Same.cells := fun x => (x, ())
def up_giroref10_Same : RL rs_giroref10_Same.cells → Bool := fun d => d.1
def R_giroref10_Same : Nat × Entry := (13, fun k nm args h => entry as_giroref10_Same rs_giroref10_Same (fun d => giroref10_Same k d.1 d.2.1 d.2.2.1 d.2.2.2.1 d.2.2.2.2.1 d.2.2.2.2.2.1 d.2.2.2.2.2.2.1 d.2.2.2.2.2.2.2.1) pk_giroref10_Same nm args h)
theorem giroref10_Same_ev (k : Nat) (d : AD as_giroref10_Same) : evF E_giroref10_Same A_giroref10_Same k 1000 0 Proofs.Try.f13 (absArgs as_giroref10_Same d).1 (absArgs as_giroref10_Same d).2 (outM rs_giroref10_Same up_giroref10_Same) = giroref10_Same k d.1 d.2.1 d.2.2.1 d.2.2.2.1 d.2.2.2.2.1 d.2.2.2.2.2.1 d.2.2.2.2.2.2.1 d.2.2.2.2.2.2.2.1 := by
  obtain ⟨_, _, _, _, _, _, _, _, _⟩ := d
  kernel_rfl
theorem R_giroref10_Same_ok : EntryOK Proofs.Try.prog R_giroref10_Same := fun k _ _ _ _ _ hy =>
  entry_sound (unpack := up_giroref10_Same) (A := A_giroref10_Same) (k := k) (pre := 1000) (na := 0) (E := E_giroref10_Same) E_giroref10_Same_ok E_giroref10_Same_local mixed_orders (f := 13) (fn := Proofs.Try.f13) (by kernel_rfl) (body_loops (loopsOK_of (n := 1) (by kernel_rfl) fun i hi => match i, hi with | 0, _ => ⟨L_giroref10_Same_L0, by kernel_rfl, giroref10_Same_L0_ok⟩ | i + 1, hi => absurd hi (by omega))) (enters (fn := Proofs.Try.f13) (by kernel_rfl) (by kernel_rfl) (by kernel_rfl)) (fun _ => rfl) (giroref10_Same_ev k) hy
theorem R_giroref10_Same_local : EntryLocal R_giroref10_Same.2 := entry_local (S := fun k (d : AD as_giroref10_Same) => giroref10_Same k d.1 d.2.1 d.2.2.1 d.2.2.2.1 d.2.2.2.2.1 d.2.2.2.2.2.1 d.2.2.2.2.2.2.1 d.2.2.2.2.2.2.2.1)

/-! ### giro/girolaw16.known -/
noncomputable def E_girolaw16_known : Env := ⟨Proofs.Try.prog, fun _ => false, sumsOf [R_girolaw16_some, R_post_Post, R_giroref10_Same]⟩
def A_girolaw16_known : Notes := ⟨[], []⟩
theorem E_girolaw16_known_ok : EnvOK E_girolaw16_known := ⟨eqOK_none, sumsOf_ok (List.forall_mem_cons.2 ⟨R_girolaw16_some_ok, List.forall_mem_cons.2 ⟨R_post_Post_ok, List.forall_mem_cons.2 ⟨R_giroref10_Same_ok, List.forall_mem_nil _⟩⟩⟩)⟩
theorem E_girolaw16_known_local : SumsLocal E_girolaw16_known.sums := sumsOf_local (List.forall_mem_cons.2 ⟨R_girolaw16_some_local, List.forall_mem_cons.2 ⟨R_post_Post_local, List.forall_mem_cons.2 ⟨R_giroref10_Same_local, List.forall_mem_nil _⟩⟩⟩)
def as_girolaw16_known : List AS := []
def rs_girolaw16_known : RS := .c (.bool)
def pk_girolaw16_known : Bool → RL rs_girolaw16_known.cells := fun x => (x, ())
def up_girolaw16_known : RL rs_girolaw16_known.cells → Bool := fun d => d.1
def R_girolaw16_known : Nat × Entry := (14, fun k nm args h => entry as_girolaw16_known rs_girolaw16_known (fun d => girolaw16_known k) pk_girolaw16_known nm args h)
theorem girolaw16_known_ev (k : Nat) (d : AD as_girolaw16_known) : evF E_girolaw16_known A_girolaw16_known k 1000 0 Proofs.Try.f14 (absArgs as_girolaw16_known d).1 (absArgs as_girolaw16_known d).2 (outM rs_girolaw16_known up_girolaw16_known) = girolaw16_known k := by
  kernel_rfl
theorem R_girolaw16_known_ok : EntryOK Proofs.Try.prog R_girolaw16_known := fun k _ _ _ _ _ hy =>
  entry_sound (unpack := up_girolaw16_known) (A := A_girolaw16_known) (k := k) (pre := 1000) (na := 0) (E := E_girolaw16_known) E_girolaw16_known_ok E_girolaw16_known_local mixed_orders (f := 14) (fn := Proofs.Try.f14) (by kernel_rfl) (body_loops (loopsOK_none (by kernel_rfl))) (enters (fn := Proofs.Try.f14) (by kernel_rfl) (by kernel_rfl) (by kernel_rfl)) (fun _ => rfl) (girolaw16_known_ev k) hy
theorem R_girolaw16_known_local : EntryLocal R_girolaw16_known.2 := entry_local (S := fun k (d : AD as_girolaw16_known) => girolaw16_known k)

/-! ### giro/girolaw16.PostFits -/
noncomputable def E_girolaw16_PostFits : Env := ⟨Proofs.Try.prog, fun _ => false, sumsOf [R_girolaw16_some, R_girolaw16_rowed, R_giroref15_Fits, R_post_Post, R_giroref10_Net, R_girolaw16_known]⟩
def I_girolaw16_PostFits_L0 : Spec := ⟨[(7, .c (.lit (.ptr 1001000 0))), (8, .c (.dat true (.pair (.int .i64) (.pair (.int .i64) (.pair (.int .i64) (.pair (.int .i64) (.pair (.int .i64) (.pair (.int .i64) (.int .i64))))))))), (9, .c (.lit (.ptr 1001005 0))), (11, .c (.int .i64))], [.box true [.lit (.osl 1001001 none), .lit (.osl 1001002 none), .lit (.osl 1001003 none), .lit (.osl 1001004 none)], .arr false (.pair (.int .i64) (.pair (.int .i64) (.int .i64))), .arr false (.sl (.int .i64)), .arr false (.int .i64), .arr false (.sl (.int .i64)), .box true [.dat true (.pair (.int .i64) (.pair (.int .i64) (.int .i64))), .dat true (.sl (.int .i64)), .dat true (.int .i64), .dat true (.sl (.int .i64))]], []⟩
def O_girolaw16_PostFits_L0 : List (Ex × Spec) := [(.exit 0, ⟨[], [], []⟩), (.ret, ⟨[(6, .c (.bool))], [], []⟩)]
def T_girolaw16_PostFits_L0 : OutD O_girolaw16_PostFits_L0 → Unit ⊕ Bool
 | .inl d => .inl ()
 | .inr d => .inr d.1.1.1
def e_girolaw16_PostFits_L0 (base : Nat) (x : Unit ⊕ Bool) (R : Type) (K : Ex → St → Option R) : Option R := match x with
 | .inl x => K (.exit 0) (stOf base ⟨[], [], []⟩ ((), ()))
 | .inr x => K .ret (stOf base ⟨[(6, .c (.bool))], [], []⟩ (((x, ()), ()), ()))
def L_girolaw16_PostFits_L0 : LoopSum := ⟨I_girolaw16_PostFits_L0, O_girolaw16_PostFits_L0, Unit ⊕ Bool, fun k d => girolaw16_PostFits_L0 k k d.1.2.1.1 d.1.2.2.2.1.1 d.2.2.1 d.2.2.2.1 d.2.2.2.2.1 d.2.2.2.2.2.1 d.2.2.2.2.2.2.1.1 d.2.2.2.2.2.2.1.2.1 d.2.2.2.2.2.2.1.2.2.1 d.2.2.2.2.2.2.1.2.2.2.1, e_girolaw16_PostFits_L0⟩
def A_girolaw16_PostFits : Notes := ⟨[], [(10, L_girolaw16_PostFits_L0)]⟩
theorem E_girolaw16_PostFits_ok : EnvOK E_girolaw16_PostFits := ⟨eqOK_none, sumsOf_ok (List.forall_mem_cons.2 ⟨R_girolaw16_some_ok, List.forall_mem_cons.2 ⟨R_girolaw16_rowed_ok, List.forall_mem_cons.2 ⟨R_giroref15_Fits_ok, List.forall_mem_cons.2 ⟨R_post_Post_ok, List.forall_mem_cons.2 ⟨R_giroref10_Net_ok, List.forall_mem_cons.2 ⟨R_girolaw16_known_ok, List.forall_mem_nil _⟩⟩⟩⟩⟩⟩)⟩
theorem E_girolaw16_PostFits_local : SumsLocal E_girolaw16_PostFits.sums := sumsOf_local (List.forall_mem_cons.2 ⟨R_girolaw16_some_local, List.forall_mem_cons.2 ⟨R_girolaw16_rowed_local, List.forall_mem_cons.2 ⟨R_giroref15_Fits_local, List.forall_mem_cons.2 ⟨R_post_Post_local, List.forall_mem_cons.2 ⟨R_giroref10_Net_local, List.forall_mem_cons.2 ⟨R_girolaw16_known_local, List.forall_mem_nil _⟩⟩⟩⟩⟩⟩)
theorem girolaw16_PostFits_L0_step (k : Nat) (rec : List (Int × Int × Int × Int × Int × Int × Int) → Int → List (Int × Int × Int) → List (List Int) → List Int → List (List Int) → List (Int × Int × Int) → List (List Int) → List Int → List (List Int) → Option (Unit ⊕ Bool)) (d : I_girolaw16_PostFits_L0.den) : girolaw16_PostFits_L0b k rec d.1.2.1.1 d.1.2.2.2.1.1 d.2.2.1 d.2.2.2.1 d.2.2.2.2.1 d.2.2.2.2.2.1 d.2.2.2.2.2.2.1.1 d.2.2.2.2.2.2.1.2.1 d.2.2.2.2.2.2.1.2.2.1 d.2.2.2.2.2.2.1.2.2.2.1 = evC E_girolaw16_PostFits A_girolaw16_PostFits k 1000 0 150 (loopAt (bodyOf Proofs.Try.f6) 0) (stOf (1000 + loopBase) I_girolaw16_PostFits_L0 d) (roundK 1000 I_girolaw16_PostFits_L0 O_girolaw16_PostFits_L0 T_girolaw16_PostFits_L0 fun d => rec d.1.2.1.1 d.1.2.2.2.1.1 d.2.2.1 d.2.2.2.1 d.2.2.2.2.1 d.2.2.2.2.2.1 d.2.2.2.2.2.2.1.1 d.2.2.2.2.2.2.1.2.1 d.2.2.2.2.2.2.1.2.2.1 d.2.2.2.2.2.2.1.2.2.2.1) := by
  obtain ⟨⟨_, ⟨_, _⟩, _, ⟨_, _⟩, _⟩, ⟨_, _, _, _, _, ⟨_, _, _, _, _⟩, _⟩⟩ := d
  kernel_rfl
theorem girolaw16_PostFits_L0_ok : LoopOK Proofs.Try.prog 1000 0 150 (loopAt (bodyOf Proofs.Try.f6) 0) L_girolaw16_PostFits_L0 :=
  loop_sound (A := A_girolaw16_PostFits) (inS := I_girolaw16_PostFits_L0) (outs := O_girolaw16_PostFits_L0) E_girolaw16_PostFits_ok E_girolaw16_PostFits_local mixed_orders (loopsOK_none (by kernel_rfl)) T_girolaw16_PostFits_L0 e_girolaw16_PostFits_L0 (by intro o R K; rcases o with o | o <;> rfl) (fun k n d => girolaw16_PostFits_L0 k n d.1.2.1.1 d.1.2.2.2.1.1 d.2.2.1 d.2.2.2.1 d.2.2.2.2.1 d.2.2.2.2.2.1 d.2.2.2.2.2.2.1.1 d.2.2.2.2.2.2.1.2.1 d.2.2.2.2.2.2.1.2.2.1 d.2.2.2.2.2.2.1.2.2.2.1) (fun _ _ => rfl) (fun k n d => girolaw16_PostFits_L0_step k (girolaw16_PostFits_L0 k n) d)
def as_girolaw16_PostFits : List AS := [.c (.dat false (.int .i64)), .c (.int .i64), .c (.dat false (.pair (.int .i64) (.pair (.int .i64) (.pair (.int .i64) (.pair (.int .i64) (.pair (.int .i64) (.pair (.int .i64) (.int .i64))))))))]
def rs_girolaw16_PostFits : RS := .c (.bool)
def pk_girolaw16_PostFits : Bool → RL rs_girolaw16_PostFits.cells := fun x => (x, ())
def up_girolaw16_PostFits : RL rs_girolaw16_PostFits.cells → Bool := fun d => d.1
def R_girolaw16_PostFits : Nat × Entry := (6, fun k nm args h => entry as_girolaw16_PostFits rs_girolaw16_PostFits (fun d => girolaw16_PostFits k d.1 d.2.1 d.2.2.1) pk_girolaw16_PostFits nm args h)
theorem girolaw16_PostFits_ev (k : Nat) (d : AD as_girolaw16_PostFits) : evF E_girolaw16_PostFits A_girolaw16_PostFits k 1000 0 Proofs.Try.f6 (absArgs as_girolaw16_PostFits d).1 (absArgs as_girolaw16_PostFits d).2 (outM rs_girolaw16_PostFits up_girolaw16_PostFits) = girolaw16_PostFits k d.1 d.2.1 d.2.2.1 := by
  obtain ⟨_, _, _, _⟩ := d
  kernel_rfl
theorem R_girolaw16_PostFits_ok : EntryOK Proofs.Try.prog R_girolaw16_PostFits := fun k _ _ _ _ _ hy =>
  entry_sound (unpack := up_girolaw16_PostFits) (A := A_girolaw16_PostFits) (k := k) (pre := 1000) (na := 0) (E := E_girolaw16_PostFits) E_girolaw16_PostFits_ok E_girolaw16_PostFits_local mixed_orders (f := 6) (fn := Proofs.Try.f6) (by kernel_rfl) (body_loops (loopsOK_of (n := 1) (by kernel_rfl) fun i hi => match i, hi with | 0, _ => ⟨L_girolaw16_PostFits_L0, by kernel_rfl, girolaw16_PostFits_L0_ok⟩ | i + 1, hi => absurd hi (by omega))) (enters (fn := Proofs.Try.f6) (by kernel_rfl) (by kernel_rfl) (by kernel_rfl)) (fun _ => rfl) (girolaw16_PostFits_ev k) hy
theorem R_girolaw16_PostFits_local : EntryLocal R_girolaw16_PostFits.2 := entry_local (S := fun k (d : AD as_girolaw16_PostFits) => girolaw16_PostFits k d.1 d.2.1 d.2.2.1)

end Go.Ab.Gi
