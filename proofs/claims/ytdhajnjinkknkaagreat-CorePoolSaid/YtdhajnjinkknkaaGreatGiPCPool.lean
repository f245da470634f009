/- part 44 -/
import Derived.Test.YtdhajnjinkknkaaGreatGiPCRun
set_option linter.unusedVariables false
set_option linter.unusedSimpArgs false
namespace Go.Ab.Gi
open Go.Ab
theorem pairs_short {k : Nat} {t : Int} {C D : BT} {m e n : List PayT} (hd : Dist m) (hm : m.length ≤ 1) (h : Ran2 k t C m e D n) : e = [] := by
 obtain ⟨h1, h2⟩ := h.length hd
 cases e with
 | nil => rfl
 | cons x l => cases l with
  | nil => simp at h2
  | cons y l => simp at h1; omega
theorem run_nil {k : Nat} {t : Int} {B C : BT} {d m : List PayT} (h : Ran k t B [] d C m) : C = B ∧ m = [] ∧ d = [] := by
 cases h with
 | stop _ => exact ⟨rfl, rfl, rfl⟩
 | step h _ => cases h
theorem loop_nil {k : Nat} {t : Int} {B C : BT} {d m : List PayT} (h : Loop k t B [] d C m) : C = B ∧ m = [] ∧ d = [] := by
 cases h with
 | stop h1 _ => exact run_nil h1
 | step h1 h2 ne _ =>
  obtain ⟨rfl, rfl, rfl⟩ := run_nil h1
  exact absurd (pairs_short List.Pairwise.nil (by simp) h2) ne
theorem run_one {k : Nat} {t : Int} {B C : BT} {p : PayT} {d m : List PayT} (hp : mayL [p] t = [p]) (h : Ran k t B [p] d C m) : (goes k B [p] = none ∧ C = B ∧ m = [p] ∧ d = []) ∨ (goes k B [p] = some C ∧ m = [] ∧ d = [p]) := by
 have e : ∀ B', nextL k B' (mayL [p] t) = match goes k B' [p] with | some C => some (p, C) | none => none := fun B' => by rw [hp]; rfl
 cases h with
 | stop h1 =>
  rw [e] at h1
  cases g : goes k B [p] with
  | none => exact .inl ⟨rfl, rfl, rfl, rfl⟩
  | some D => rw [g] at h1; cases h1
 | step h1 h2 =>
  rw [e] at h1
  cases g : goes k B [p] with
  | none => rw [g] at h1; cases h1
  | some D =>
   rw [g] at h1
   cases h1
   have ed : dropL [p] p.1 = [] := List.eq_nil_of_length_eq_zero (by have := (dropL_of (List.mem_singleton_self p)).1; simpa using this)
   rw [ed] at h2
   obtain ⟨rfl, rfl, rfl⟩ := run_nil h2
   exact .inr ⟨rfl, rfl, rfl⟩
theorem loop_one {k : Nat} {t : Int} {B C : BT} {p : PayT} {d m : List PayT} (hp : mayL [p] t = [p]) (h : Loop k t B [p] d C m) : (goes k B [p] = none ∧ C = B ∧ m = [p] ∧ d = []) ∨ (goes k B [p] = some C ∧ m = [] ∧ d = [p]) := by
 cases h with
 | stop h1 _ => exact run_one hp h1
 | step h1 h2 ne _ =>
  have : ∀ m : List PayT, m = [p] ∨ m = [] → Dist m ∧ m.length ≤ 1 := by
   rintro m (rfl | rfl)
   ·exact ⟨List.pairwise_singleton _ _, by simp⟩
   ·exact ⟨List.Pairwise.nil, by simp⟩
  rcases run_one hp h1 with ⟨_, _, g, _⟩ | ⟨_, g, _⟩
  ·exact absurd (pairs_short (this _ (.inl g)).1 (this _ (.inl g)).2 h2) ne
  ·exact absurd (pairs_short (this _ (.inr g)).1 (this _ (.inr g)).2 h2) ne
theorem settle_few {k : Nat} (hk : 200 ≤ k) {B : BT} (hb : BooksT B) {l : List PayT} (hd : Dist l) (hl : l.length ≤ 64) (t : Int) {X : BT} {mx dx : List PayT} (h : settle_Run k B.1 B.2.1 B.2.2.1 B.2.2.2 l t false = some (X.1, X.2.1, X.2.2.1, X.2.2.2, mx, dx)) : Loop k t B l dx X mx := by
 obtain ⟨C, m, d, f1, f2, f3, f4, f5⟩ := settle_some_is hk hb hd (by omega) t
 unfold settle_Run at h
 rw [f1] at h
 simp only [Option.bind_some, Bool.not_false, cond_true, Option.some.injEq] at h
 obtain ⟨e1, e2, e3⟩ := bt_inj h
 subst e1; subst e2; subst e3
 exact f2
structure Is3 (N : Int) (B : BT) (b c : Int) : Prop where
 bk : BooksT B
 len : B.1.length = 3
 me : B.1.getD 0 ad = (b, c, 0)
 bal : ∀ i, i < 3 → -N ≤ (B.1.getD i ad).1 ∧ (B.1.getD i ad).1 ≤ N
 net : ∀ i, i < 3 → ∀ j, j < 3 → -N ≤ cell B.2.2.2 i j ∧ cell B.2.2.2 i j ≤ N
 bil : ∀ j, j < 3 → cell B.2.1 0 j = -1
 mul : B.2.2.1.getD 0 0 = -1
theorem fits_one {N : Int} {B : BT} {b c : Int} (h : Is3 N B b c) {p : PayT} (hp : May 3 p) (h0 : p.2.1 = 0) : fitsT B [p] = decide (b + c ≥ p.2.2.2.1) := by
 have hl := h.len
 have ha := hp.a1
 have hne : ¬ p.2.2.1 = 0 := fun e => hp.ne (h0.trans e.symm)
 have s1 : ∀ g : PayT → Int, sumL g [p] = g p := fun g => by show g p + 0 = g p; omega
 have hmay : allMay B.1.length [p] = true := allMay_iff.2 fun q hq => by rw [List.mem_singleton.1 hq, hl]; exact hp
 have me : B.1.getD 0 ad = (b, c, 0) := h.me
 have gB0 : gB 0 p = -p.2.2.2.1 := by unfold gB; rw [if_neg (by omega), if_pos (by omega)]; omega
 have gNR : gN 0 p + gR 0 p = p.2.2.2.1 := by
  unfold gN gR
  by_cases q : p.2.2.2.2.1 = 3
  ·rw [if_pos ⟨by omega, q⟩, if_neg (fun z => z.2 q)]; omega
  ·rw [if_neg (fun z => q z.2), if_pos ⟨by omega, q⟩]; omega
 have gR0 : 0 ≤ gR 0 p := by unfold gR; split <;> omega
 have k0 : keptZ 0 (gR 0 p) = 0 := by unfold keptZ; rw [if_pos gR0]
 have sh0 : shortB B.1 B.2.1 B.2.2.1 B.2.2.2 [p] 0 = decide (b + c < p.2.2.2.1) := by
  unfold shortB
  have hb : allF (bilOk B.2.1 B.2.2.2 [p] 0) B.1.length 0 = true := allF_zero.2 fun j hj => by
   unfold bilOk
   rw [h.bil j (by omega), decide_eq_true rfl]
   simp
  rw [hb, s1, s1, s1, gNR, me, gB0, h.mul]
  have e1 : decide (p.2.2.2.1 = 0) = false := decide_eq_false (by omega)
  have e2 : decide ((-1 : Int) = -1) = true := rfl
  have e3 : (keptZ 0 (gR 0 p)) = 0 := k0
  rw [e1, e2, e3]
  by_cases q : b + c < p.2.2.2.1
  ·rw [decide_eq_true q, decide_eq_true (show b + c + -p.2.2.2.1 < 0 by omega)]; rfl
  ·rw [decide_eq_false q, decide_eq_false (show ¬ b + c + -p.2.2.2.1 < 0 by omega)]; simp
 have shi : ∀ i, 0 < i → shortB B.1 B.2.1 B.2.2.1 B.2.2.2 [p] i = false := fun i hi => by
  unfold shortB
  rw [s1, s1]
  have : gN i p + gR i p = 0 := by unfold gN gR; rw [if_neg (fun z => by omega), if_neg (fun z => by omega)]; rfl
  rw [this]
  rfl
 unfold fitsT fitsB
 rw [hmay]
 simp only [List.length_singleton, Bool.true_and]
 rw [decide_eq_true (show 1 ≤ 64 by omega), Bool.true_and]
 by_cases q : b + c ≥ p.2.2.2.1
 ·rw [decide_eq_true q]
  refine allF_zero.2 fun i hi => ?_
  cases i with
  | zero => rw [sh0, decide_eq_false (by omega)]; rfl
  | succ i => rw [shi _ (Nat.succ_pos i)]; rfl
 ·rw [decide_eq_false q]
  cases g : allF (fun i => !shortB B.1 B.2.1 B.2.2.1 B.2.2.2 [p] i) B.1.length 0 with
  | false => rfl
  | true =>
   have := allF_zero.1 g 0 (by omega)
   rw [sh0, decide_eq_true (show b + c < p.2.2.2.1 by omega)] at this
   cases this
theorem goes_one {k : Nat} (hk : 100 < k) {N : Int} (hN : N ≤ 1000000) {B : BT} {b c : Int} (h : Is3 N B b c) {p : PayT} (hp : May 3 p) (h0 : p.2.1 = 0) (ha : p.2.2.2.1 ≤ 5000) :
  (¬ b + c ≥ p.2.2.2.1 → goes k B [p] = none) ∧ (b + c ≥ p.2.2.2.1 → ∃ C, goes k B [p] = some C ∧ Is3 (N + 5000) C (b - p.2.2.2.1) c) := by
 have hf := fits_one h hp h0
 have hbk : Books B.1 B.2.1 B.2.2.1 B.2.2.2 := h.bk
 have hl := h.len
 have ha1 := hp.a1
 have hne : ¬ p.2.2.1 = 0 := fun e => hp.ne (h0.trans e.symm)
 have s1 : ∀ g : PayT → Int, sumL g [p] = g p := fun g => by show g p + 0 = g p; omega
 obtain ⟨r, r1, r2⟩ := post_Post_eq (k := k) hk hbk (l := [p]) (by simp)
 constructor
 ·intro q
  unfold goes
  rw [r1, hf, decide_eq_false q]
  simp
 ·intro q
  have hrow : Row B.1.length [p] := ⟨fun x hx => by rw [List.mem_singleton.1 hx, hl]; exact hp, by simp⟩
  obtain ⟨a', p', x, e⟩ := r2.1 hrow
  have gb : ∀ i, -5000 ≤ gB i p ∧ gB i p ≤ 5000 := fun i => by unfold gB; split <;> split <;> omega
  have gs : ∀ i j, 0 ≤ gS i j p ∧ gS i j p ≤ 5000 := fun i j => by unfold gS; split <;> omega
  have hB : Books a' B.2.1 B.2.2.1 p' := posted_books hbk hrow x
   (fun i hi => by rw [s1]; have := h.bal i (by omega); have := gb i; constructor <;> omega)
   (fun i hi j hj => by rw [s1, s1]; have := h.net i (by omega) j (by omega); have := gs i j; have := gs j i; constructor <;> omega)
  rw [isB_iff.2 hB] at e
  subst e
  have xa := x.acct
  have xc := x.cell
  have xl := x.al
  rw [hl] at xa xc xl
  refine ⟨(a', B.2.1, B.2.2.1, p'), ?_, hB, xl, ?_, fun i hi => ?_, fun i hi j hj => ?_, h.bil, h.mul⟩
  ·unfold goes
   rw [r1, hf, decide_eq_true q]
   rfl
  ·show a'.getD 0 ad = _
   rw [xa 0 (by omega), h.me, s1, s1]
   have e1 : gB 0 p = -p.2.2.2.1 := by unfold gB; rw [if_neg (by omega), if_pos (by omega)]; omega
   have gR0 : 0 ≤ gR 0 p := by unfold gR; split <;> omega
   have e2 : keptZ 0 (gR 0 p) = 0 := by unfold keptZ; rw [if_pos gR0]
   show (b + gB 0 p, c, keptZ 0 (gR 0 p)) = _
   rw [e1, e2]
   rfl
  ·show -(N + 5000) ≤ (a'.getD i ad).1 ∧ _
   rw [xa i hi, s1]
   have := h.bal i hi
   have := gb i
   show -(N + 5000) ≤ (B.1.getD i ad).1 + gB i p ∧ (B.1.getD i ad).1 + gB i p ≤ N + 5000
   omega
  ·show -(N + 5000) ≤ cell p' i j ∧ cell p' i j ≤ N + 5000
   rw [xc i hi j hj, s1, s1]
   have := h.net i hi j hj
   have := gs i j
   have := gs j i
   omega
end Go.Ab.Gi
