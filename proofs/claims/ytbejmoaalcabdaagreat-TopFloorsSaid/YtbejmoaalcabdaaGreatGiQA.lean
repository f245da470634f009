/- Plain proofs, part 0. -/
import Derived.Test.YtbejmoaalcabdaaGreatGiAbC
import Derived.Test.YtbejmoaalcabdaaGreatGiXS
set_option linter.unusedVariables false
set_option linter.unusedSimpArgs false
set_option linter.unusedSectionVars false
set_option maxRecDepth 100000
namespace Go.Ab
theorem vH8 {p : Prop} [Decidable p] (h : p) : decide p = true := decide_eq_true h
theorem vH9 {p : Prop} [Decidable p] (h : ¬ p) : decide p = false := decide_eq_false h
theorem vIa {p : Prop} [Decidable p] (h : decide p = true) : p := of_decide_eq_true h
theorem vIb {p : Prop} [Decidable p] (h : decide p = false) : ¬ p := of_decide_eq_false h
theorem vIc {p : Prop} [Decidable p] : (decide p = true) = p := decide_eq_true_eq
theorem vId {α β : Type} (a : α) (f : α → Option β) : (some a).bind f = f a := rfl
theorem vIe {α : Type} (a b : α) : cond true a b = a := rfl
theorem vIf {α : Type} (a b : α) : cond false a b = b := rfl
theorem vIg (n : Nat) : (n : Int).toNat = n := rfl
theorem vIh (a b : Bool) : ((a && b) = true) = (a = true ∧ b = true) := Bool.and_eq_true a b
theorem vIi : (!true) = false := rfl
theorem vIj : (!false) = true := rfl
end Go.Ab
namespace Go.Ab
theorem yH {x : Int} (h1 : -9223372036854775808 ≤ x) (h2 : x < 9223372036854775808) : zC x = x := by
 unfold zC IntKind.wrap
 simp only [IntKind.bits, IntKind.signed, Bool.true_and]
 by_cases h : x % 2 ^ 64 ≥ 2 ^ (64 - 1)
 ·rw [if_pos (by simpa using h)]; omega
 ·rw [if_neg (by simpa using h)]; omega
theorem qX {i N : Nat} (h : i < N) (hN : N < 9223372036854775808) : zC ((i : Int) + 1) = ((i + 1 : Nat) : Int) := by
 rw [yH (by omega) (by omega)]; rfl
theorem qT (i n : Nat) : zE (i : Int) n = decide (i < n) := by
 unfold zE
 simp
theorem zM9 {i : Int} {n : Nat} (h0 : 0 ≤ i) (h1 : i < n) : zE i n = true := by
 unfold zE
 simp; omega
theorem wA {n b : Nat} (h : n * b ≤ 140737488355328) (h' : n ≤ 140737488355328) : zY n b = true := by
 unfold zY
 rw [Nat.ble_eq_true_of_le h, Nat.ble_eq_true_of_le h']; rfl
theorem qB (i n : Nat) : decide ((i : Int) < (n : Int)) = decide (i < n) := by simp
theorem zId (i n : Nat) : decide ((i : Int) = (n : Int)) = decide (i = n) := by
 by_cases h : i = n
 ·subst h; simp
 ·rw [vH9 h, vH9 (by omega)]
def qH (p : Nat → Bool) : Nat → Nat → Bool
 | 0, _ => true
 | c + 1, i => p i && qH p c (i + 1)
theorem qS7 {p : Nat → Bool} : ∀ {c i : Nat}, qH p c i = true ↔ ∀ j, i ≤ j → j < i + c → p j = true
 | 0, i => by simp [qH]; intro j h1 h2; omega
 | c + 1, i => by
  simp only [qH, vIh, qS7 (c := c)]
  constructor
  ·rintro ⟨h1, h2⟩ j h3 h4
   by_cases e : j = i
   ·subst e; exact h1
   ·exact h2 j (by omega) (by omega)
  ·intro h
   exact ⟨h i (Nat.le_refl i) (by omega), fun j h1 h2 => h j (by omega) (by omega)⟩
theorem zAv {p : Nat → Bool} {c : Nat} : qH p c 0 = true ↔ ∀ j, j < c → p j = true := by
 rw [qS7]
 exact ⟨fun h j hj => h j (Nat.zero_le j) (by omega), fun h j _ hj => h j (by omega)⟩
theorem yBw {X : Type} {L : Nat → Int → Option X} {N : Nat} (ok : Nat → Bool) (a b : X) (hend : ∀ n, L (n + 1) (N : Int) = some a)
  (hstep : ∀ n i, i < N → L (n + 1) (i : Int) = bif ok i then L n ((i + 1 : Nat) : Int) else some b) : ∀ c i n, i + c = N → c < n → L n (i : Int) = some (bif qH ok c i then a else b)
 | 0, i, n, h, hn => by
  obtain ⟨n, rfl⟩ : ∃ m, n = m + 1 := ⟨n - 1, by omega⟩
  have : i = N := by omega
  subst this
  exact hend n
 | c + 1, i, n, h, hn => by
  obtain ⟨n, rfl⟩ : ∃ m, n = m + 1 := ⟨n - 1, by omega⟩
  rw [hstep n i (by omega)]
  unfold qH
  cases ok i with
  | false => rfl
  | true =>
   simp only [vIe, Bool.true_and]
   exact yBw ok a b hend hstep c (i + 1) n (by omega) (by omega)
theorem zEs {X : Type} {L : Nat → Int → Option X} {N : Nat} (ok : Nat → Bool) (a b : X) (hend : ∀ n, L (n + 1) (N : Int) = some a)
  (hstep : ∀ n i, i < N → L (n + 1) (i : Int) = bif ok i then L n ((i + 1 : Nat) : Int) else some b) {n : Nat} (hn : N < n) : L n 0 = some (bif qH ok N 0 then a else b) :=
 yBw ok a b hend hstep N 0 n (by omega) hn
theorem qQh {L : Nat → Int → Option (Unit ⊕ Int)} {N : Nat} (bad : Nat → Bool) (hend : ∀ n, L (n + 1) (N : Int) = some (.inl ()))
  (hstep : ∀ n i, i < N → L (n + 1) (i : Int) = bif bad i then some (.inr (i : Int)) else L n ((i + 1 : Nat) : Int)) :
  ∀ c i n, i + c = N → c < n → (qH (fun j => !bad j) c i = true ∧ L n (i : Int) = some (.inl ())) ∨ ∃ x : Nat, i ≤ x ∧ x < N ∧ bad x = true ∧ (∀ j, i ≤ j → j < x → bad j = false) ∧ qH (fun j => !bad j) c i = false ∧ L n (i : Int) = some (.inr (x : Int))
 | 0, i, n, h, hn => by
  obtain ⟨n, rfl⟩ : ∃ m, n = m + 1 := ⟨n - 1, by omega⟩
  have : i = N := by omega
  subst this
  exact .inl ⟨rfl, hend n⟩
 | c + 1, i, n, h, hn => by
  obtain ⟨n, rfl⟩ : ∃ m, n = m + 1 := ⟨n - 1, by omega⟩
  rw [hstep n i (by omega)]
  unfold qH
  cases hb : bad i with
  | true => exact .inr ⟨i, Nat.le_refl i, by omega, hb, fun j h1 h2 => absurd h1 (by omega), rfl, rfl⟩
  | false =>
   simp only [vIf, vIj, Bool.true_and]
   rcases qQh bad hend hstep c (i + 1) n (by omega) (by omega) with h1 | ⟨x, x1, x2, x3, x4, x5, x6⟩
   ·exact .inl h1
   ·refine .inr ⟨x, by omega, x2, x3, fun j h1 h2 => ?_, x5, x6⟩
    by_cases e : j = i
    ·subst e; exact hb
    ·exact x4 j (by omega) h2
theorem zHe {L : Nat → Int → Option (Unit ⊕ Int)} {N : Nat} (bad : Nat → Bool) (hend : ∀ n, L (n + 1) (N : Int) = some (.inl ()))
  (hstep : ∀ n i, i < N → L (n + 1) (i : Int) = bif bad i then some (.inr (i : Int)) else L n ((i + 1 : Nat) : Int)) {n : Nat} (hn : N < n) :
  ∃ x : Unit ⊕ Int, L n 0 = some x ∧ decide ((match x with | .inl _ => (-1 : Int) | .inr y => y) ≥ 0) = !qH (fun j => !bad j) N 0 := by
 rcases qQh bad hend hstep N 0 n (by omega) hn with ⟨h1, h2⟩ | ⟨x, _, _, _, _, h5, h6⟩
 ·exact ⟨_, h2, by rw [h1]; rfl⟩
 ·exact ⟨_, h6, by rw [h5]; simp⟩
theorem yCg {S X : Type} {L : Nat → Int → S → Option X} {N : Nat} (e : S → X) (inv : Nat → S → Prop) (hend : ∀ n s, inv N s → L (n + 1) (N : Int) s = some (e s))
  (hstep : ∀ n i s, i < N → inv i s → ∃ s', L (n + 1) (i : Int) s = L n ((i + 1 : Nat) : Int) s' ∧ inv (i + 1) s') :
  ∀ c i n s, i + c = N → c < n → inv i s → ∃ s', L n (i : Int) s = some (e s') ∧ inv N s'
 | 0, i, n, s, h, hn, hs => by
  obtain ⟨n, rfl⟩ : ∃ m, n = m + 1 := ⟨n - 1, by omega⟩
  have : i = N := by omega
  subst this
  exact ⟨s, hend n s hs, hs⟩
 | c + 1, i, n, s, h, hn, hs => by
  obtain ⟨n, rfl⟩ : ∃ m, n = m + 1 := ⟨n - 1, by omega⟩
  obtain ⟨s', h1, h2⟩ := hstep n i s (by omega) hs
  rw [h1]
  exact yCg e inv hend hstep c (i + 1) n s' (by omega) (by omega) h2
theorem wZ {S X : Type} {L : Nat → Int → S → Option X} {N : Nat} (e : S → X) (inv : Nat → S → Prop) (hend : ∀ n s, inv N s → L (n + 1) (N : Int) s = some (e s))
  (hstep : ∀ n i s, i < N → inv i s → ∃ s', L (n + 1) (i : Int) s = L n ((i + 1 : Nat) : Int) s' ∧ inv (i + 1) s') {n : Nat} {s : S} (hn : N < n) (hs : inv 0 s) :
  ∃ s', L n 0 s = some (e s') ∧ inv N s' := yCg e inv hend hstep N 0 n s (by omega) hn hs
def zS {α : Type} (g : α → Int) : List α → Int
 | [] => 0
 | p :: l => g p + zS g l
theorem zBt {α : Type} (g : α → Int) : ∀ (l m : List α), zS g (l ++ m) = zS g l + zS g m
 | [], m => by simp [zS]
 | p :: l, m => by
  show g p + zS g (l ++ m) = g p + zS g l + zS g m
  rw [zBt g l m]; omega
theorem zM0 {α : Type} {g : α → Int} {A : Int} : ∀ {l : List α}, (∀ p ∈ l, -A ≤ g p ∧ g p ≤ A) → -(l.length * A) ≤ zS g l ∧ zS g l ≤ l.length * A
 | [], _ => by simp [zS]
 | p :: l, h => by
  have h1 := h p (List.mem_cons_self ..)
  have h2 := zM0 (l := l) fun q hq => h q (List.mem_cons_of_mem _ hq)
  have e : ((p :: l).length : Int) * A = (l.length : Int) * A + A := by
   rw [List.length_cons, Int.natCast_add, Int.add_mul]; simp
  rw [e]
  show -_ ≤ g p + zS g l ∧ g p + zS g l ≤ _
  omega
theorem zGf {α : Type} {g : α → Int} : ∀ {l : List α}, (∀ p ∈ l, 0 ≤ g p) → 0 ≤ zS g l
 | [], _ => by simp [zS]
 | p :: l, h => by
  have h1 := h p (List.mem_cons_self ..)
  have h2 := zGf (l := l) fun q hq => h q (List.mem_cons_of_mem _ hq)
  show 0 ≤ g p + zS g l
  omega
theorem qTj {α : Type} (g h : α → Int) : ∀ (l : List α), zS (fun p => g p + h p) l = zS g l + zS h l
 | [] => rfl
 | p :: l => by
  show g p + h p + zS _ l = g p + zS g l + (h p + zS h l)
  rw [qTj g h l]; omega
theorem qHe {α : Type} (g h : α → Int) : ∀ (l : List α), zS (fun p => g p - h p) l = zS g l - zS h l
 | [] => rfl
 | p :: l => by
  show g p - h p + zS _ l = g p + zS g l - (h p + zS h l)
  rw [qHe g h l]; omega
theorem zV3 {α : Type} {g h : α → Int} : ∀ {l : List α}, (∀ p ∈ l, g p = h p) → zS g l = zS h l
 | [], _ => rfl
 | p :: l, e => by
  show g p + zS g l = h p + zS h l
  rw [e p (List.mem_cons_self ..), zV3 fun q hq => e q (List.mem_cons_of_mem _ hq)]
def qL (g : Nat → Int) : Nat → Int
 | 0 => 0
 | n + 1 => qL g n + g n
theorem zLx (g h : Nat → Int) : ∀ n, qL (fun j => g j + h j) n = qL g n + qL h n
 | 0 => rfl
 | n + 1 => by
  show qL _ n + (g n + h n) = qL g n + g n + (qL h n + h n)
  rw [zLx g h n]; omega
theorem zB8 {g h : Nat → Int} : ∀ {n : Nat}, (∀ j, j < n → g j = h j) → qL g n = qL h n
 | 0, _ => rfl
 | n + 1, e => by
  show qL g n + g n = qL h n + h n
  rw [zB8 fun j hj => e j (by omega), e n (Nat.lt_succ_self n)]
theorem zH9 (c : Int) (t : Nat) : ∀ n, qL (fun j => if j = t then c else 0) n = if t < n then c else 0
 | 0 => rfl
 | n + 1 => by
  show qL _ n + (if n = t then c else 0) = _
  rw [zH9 c t n]
  by_cases h : t < n
  ·rw [if_pos h, if_neg (by omega), if_pos (by omega)]; omega
  ·by_cases h' : n = t
   ·rw [if_neg h, if_pos h', if_pos (by omega)]; omega
   ·rw [if_neg h, if_neg h', if_neg (by omega)]; omega
theorem qK7 : ∀ n, qL (fun _ => 0) n = 0
 | 0 => rfl
 | n + 1 => by show qL _ n + 0 = 0; rw [qK7 n]; rfl
theorem zQ9 {g : Nat → Int} {A : Int} (h : ∀ j, -A ≤ g j ∧ g j ≤ A) : ∀ n : Nat, -(n * A) ≤ qL g n ∧ qL g n ≤ n * A
 | 0 => by simp [qL]
 | n + 1 => by
  have h1 := h n
  have h2 := zQ9 h n
  have e : ((n + 1 : Nat) : Int) * A = (n : Int) * A + A := by
   rw [Int.natCast_add, Int.add_mul]; simp
  rw [e]
  show -_ ≤ qL g n + g n ∧ qL g n + g n ≤ _
  omega
theorem zW7 {α : Type} (g : Nat → α → Int) (n : Nat) : ∀ l : List α, qL (fun j => zS (g j) l) n = zS (fun p => qL (fun j => g j p) n) l
 | [] => qK7 n
 | p :: l => by
  show qL (fun j => g j p + zS (g j) l) n = qL (fun j => g j p) n + zS _ l
  rw [zLx, zW7 g n l]
theorem zAa {α : Type} {l : List α} {i : Nat} {d : α} (h : i < l.length) : l.getD i d ∈ l := by
 rw [List.getD_eq_getElem?_getD, List.getElem?_eq_getElem h]
 exact List.getElem_mem h
theorem zAp {α : Type} (l : List α) (i : Nat) (d : α) (h : i < l.length) : l.take i ++ [l.getD i d] = l.take (i + 1) := by
 rw [List.take_add_one, List.getD_eq_getElem?_getD, List.getElem?_eq_getElem h]
 rfl
theorem vW {α : Type} (l : List α) (i j : Nat) (a d : α) : (l.set i a).getD j d = if i = j ∧ i < l.length then a else l.getD j d := by
 rw [List.getD_eq_getElem?_getD, List.getD_eq_getElem?_getD, List.getElem?_set]
 by_cases h : i = j
 ·subst h
  by_cases h' : i < l.length <;> simp [h']
 ·simp [h]
theorem zYq {α : Type} {l m : List α} (d : α) (hl : l.length = m.length) (h : ∀ i, i < l.length → l.getD i d = m.getD i d) : l = m := by
 apply List.ext_getElem hl
 intro i h1 h2
 have := h i h1
 rwa [List.getD_eq_getElem?_getD, List.getD_eq_getElem?_getD, List.getElem?_eq_getElem h1, List.getElem?_eq_getElem h2] at this
end Go.Ab
namespace Go.Ab.Gi
open Go.Ab
abbrev qK := Int × Int × Int
abbrev zB := Int × Int × Int × Int × Int × Int × Int
def jB (a : qK) : Bool := decide (a.1 > -4611686018427387904) && (decide (a.1 < 4611686018427387904) && (decide (a.2.1 ≥ 0) && (decide (a.2.1 ≤ 2305843009213693952) && (decide (a.2.2 ≥ 0) && decide (a.2.2 ≤ 2305843009213693952)))))
def vP (n : Int) : Bool := decide (n ≥ -1) && decide (n ≤ 2305843009213693952)
def zAf (n : Int) : Bool := decide (n > -72057594037927936) && decide (n < 72057594037927936)
def cell (m : List (List Int)) (i j : Nat) : Int := (m.getD i []).getD j 0
def sqL (n : Nat) (m : List (List Int)) : Bool := decide (m.length = n) && qH (fun i => decide ((m.getD i []).length = n)) n 0
def zDk (p : Int → Bool) (n : Nat) (m : List (List Int)) : Bool := qH (fun i => qH (fun j => p (cell m i j)) n 0) n 0
def zFp (n : Nat) (m : List (List Int)) : Bool := qH (fun i => qH (fun j => decide (cell m i j = zC (0 - cell m j i))) n 0) n 0
def isB (accts : List qK) (bil : List (List Int)) (mul : List Int) (pos : List (List Int)) : Bool :=
 let n := accts.length
 decide (1 ≤ n) && (decide (n ≤ 6) && (sqL n bil && (sqL n pos && (decide (mul.length = n) && (qH (fun i => jB (accts.getD i (0, 0, 0))) n 0 && (qH (fun i => vP (mul.getD i 0)) n 0 && (zDk vP n bil && (zDk zAf n pos && zFp n pos))))))))
theorem yJf (k : Nat) (b c r : Int) : qA5 k b c r = some (jB (b, c, r)) := by
 unfold qA5 jB
 cases decide (b > -4611686018427387904) <;> cases decide (b < 4611686018427387904) <;> cases decide (c ≥ 0) <;> cases decide (c ≤ 2305843009213693952) <;> cases decide (r ≥ 0) <;> rfl
theorem yLh (k : Nat) (b c r : Int) : zZb k b c r = some (jB (b, c, r)) := yJf k b c r
theorem qIg (k : Nat) (n : Int) : zXl k n = some (vP n) := by
 unfold zXl vP
 cases decide (n ≥ -1) <;> rfl
theorem yZp (k : Nat) (n : Int) : qKt k n = some (vP n) := qIg k n
theorem yYv (k : Nat) (n : Int) : zSk k n = some (zAf n) := by
 unfold zSk zAf
 cases decide (n > -72057594037927936) <;> rfl
theorem qTt {k : Nat} {n : Nat} (hk : n < k) (hn : n ≤ 1000) (m : List (List Int)) : zVb k m n = some (sqL n m) := by
 unfold zVb sqL
 simp only [zId]
 by_cases h : m.length = n
 ·have := zEs (L := fun c i => qGh k c m n i) (N := n) (fun i => decide ((m.getD i []).length = n)) (.inl ()) (.inr false) (fun c => by
    show zRi k _ m n n = _
    unfold zRi
    simp only [qB, vH9 (Nat.lt_irrefl n), vIf]) (fun c i hi => by
    show zRi k _ m n i = _
    unfold zRi
    simp only [qT, qX hi (by omega), qB, zId, vIg, h, vH8 hi, vIe]
    cases decide ((m.getD i []).length = n) <;> rfl) hk
  simp only [h, decide_true, vIi, vIf, Bool.true_and]
  rw [this]
  generalize qH _ _ _ = r
  cases r <;> rfl
 ·simp only [vH9 h, vIj, vIe, Bool.false_and]
theorem yPk {k : Nat} {N i : Nat} (hk : N < k) (hN : N ≤ 1000) (hi : i < N) {a : List qK} {b p : List (List Int)} {m : List Int} (hb : b.length = N) (hp : p.length = N) (hbr : ∀ j, j < N → (b.getD j []).length = N) (hpr : ∀ j, j < N → (p.getD j []).length = N) :
  zYa k k N i 0 a b m p = some (bif qH (fun j => vP (cell b i j) && (zAf (cell p i j) && decide (cell p i j = zC (0 - cell p j i)))) N 0 then .inl ((N : Int), (i : Int), a, b, m, p) else .inr false) := by
 refine zEs (L := fun c j => zYa k c N i j a b m p) (N := N) _ (.inl ((N : Int), (i : Int), a, b, m, p)) (.inr false) (fun c => ?_) (fun c j hj => ?_) hk
 ·show zQn k _ N i N a b m p = _
  unfold zQn
  simp only [qB, vH9 (Nat.lt_irrefl N), vIf]
 ·show zQn k _ N i j a b m p = _
  unfold zQn
  simp only [qT, qX hj (by omega), qB, vIg, hb, hp, hbr i hi, hpr i hi, hpr j hj, vH8 hj, vH8 hi, vIe, qIg, vId, zAf]
  show (bif !vP (cell b i j) then _ else bif decide (cell p i j ≤ _) then _ else bif decide (cell p i j ≥ _) then _ else bif !decide (cell p i j = _) then _ else _) = _
  have e1 : decide (cell p i j ≤ -72057594037927936) = !decide (cell p i j > -72057594037927936) := by
   by_cases h : cell p i j ≤ -72057594037927936
   ·rw [vH8 h, vH9 (by omega)]; rfl
   ·rw [vH9 h, vH8 (by omega)]; rfl
  have e2 : decide (cell p i j ≥ 72057594037927936) = !decide (cell p i j < 72057594037927936) := by
   by_cases h : cell p i j ≥ 72057594037927936
   ·rw [vH8 h, vH9 (by omega)]; rfl
   ·rw [vH9 h, vH8 (by omega)]; rfl
  rw [e1, e2]
  show (bif !vP (cell b i j) then _ else bif _ then _ else bif _ then _ else bif !decide (cell p i j = zC (0 - cell p j i)) then _ else _) = _
  cases vP (cell b i j) <;> cases decide (cell p i j > -72057594037927936) <;> cases decide (cell p i j < 72057594037927936) <;> cases decide (cell p i j = zC (0 - cell p j i)) <;> rfl
theorem yVl {k : Nat} {N : Nat} (hk : N < k) (hN : N ≤ 1000) {a : List qK} {b p : List (List Int)} {m : List Int} (ha : a.length = N) (hm : m.length = N) (hb : b.length = N) (hp : p.length = N) (hbr : ∀ j, j < N → (b.getD j []).length = N) (hpr : ∀ j, j < N → (p.getD j []).length = N) :
  zWw k k N 0 a b m p = some (bif qH (fun i => jB (a.getD i (0, 0, 0)) && (vP (m.getD i 0) && qH (fun j => vP (cell b i j) && (zAf (cell p i j) && decide (cell p i j = zC (0 - cell p j i)))) N 0)) N 0 then .inl () else .inr false) := by
 refine zEs (L := fun c j => zWw k c N j a b m p) (N := N) _ (.inl ()) (.inr false) (fun c => ?_) (fun c i hi => ?_) hk
 ·show zR6 k _ N N a b m p = _
  unfold zR6
  simp only [qB, vH9 (Nat.lt_irrefl N), vIf]
 ·show zR6 k _ N i a b m p = _
  unfold zR6
  simp only [qT, qB, vIg, ha, hm, vH8 hi, vIe, qIg, yJf, vId, yPk hk hN hi hb hp hbr hpr]
  generalize qH _ N 0 = r
  show (bif !jB (a.getD i (0, 0, 0)) then _ else _) = _
  cases jB (a.getD i (0, 0, 0)) <;> cases vP (m.getD i 0) <;> cases r <;> simp only [vIi, vIj, vIe, vIf, Bool.and_true, Bool.and_false, Bool.true_and, Bool.false_and, qX hi (show N < 9223372036854775808 by omega)]
theorem yWv {k : Nat} (hk : 10 < k) (a : List qK) (b : List (List Int)) (m : List Int) (p : List (List Int)) : qIr k a b m p = some (isB a b m p) := by
 unfold qIr
 have l1 : decide ((a.length : Int) < 1) = !decide (1 ≤ a.length) := by
  by_cases h : 1 ≤ a.length
  ·rw [vH8 h, vH9 (by omega)]; rfl
  ·rw [vH9 h, vH8 (by omega)]; rfl
 have l2 : decide ((a.length : Int) > 6) = !decide (a.length ≤ 6) := by
  by_cases h : a.length ≤ 6
  ·rw [vH8 h, vH9 (by omega)]; rfl
  ·rw [vH9 h, vH8 (by omega)]; rfl
 rw [l1, l2]
 unfold isB
 dsimp only
 by_cases h1 : 1 ≤ a.length
 case neg => rw [vH9 h1]; rfl
 by_cases h2 : a.length ≤ 6
 case neg => rw [vH8 h1, vH9 h2]; rfl
 rw [vH8 h1, vH8 h2]
 simp only [vIi, vIf, Bool.true_and]
 rw [qTt (by omega) (by omega), qTt (by omega) (by omega)]
 simp only [vId, zId]
 cases hb : sqL a.length b with
 | false => rfl
 | true =>
  cases hp : sqL a.length p with
  | false => rfl
  | true =>
   by_cases hm : m.length = a.length
   case neg => simp only [vH9 hm]; rfl
   simp only [sqL, vIh, vIc, zAv] at hb hp
   simp only [hm, decide_true, vIi, vIf, Bool.true_and]
   rw [yVl (by omega) (by omega) rfl hm hb.1 hp.1 hb.2 hp.2]
   have e : (qH (fun i => jB (a.getD i (0, 0, 0))) a.length 0 && (qH (fun i => vP (m.getD i 0)) a.length 0 && (zDk vP a.length b && (zDk zAf a.length p && zFp a.length p)))) =
     qH (fun i => jB (a.getD i (0, 0, 0)) && (vP (m.getD i 0) && qH (fun j => vP (cell b i j) && (zAf (cell p i j) && decide (cell p i j = zC (0 - cell p j i)))) a.length 0)) a.length 0 := by
    rw [Bool.eq_iff_iff]
    simp only [zDk, zFp, vIh, zAv]
    constructor
    ·rintro ⟨h1, h2, h3, h4, h5⟩ i hi
     exact ⟨h1 i hi, h2 i hi, fun j hj => ⟨h3 i hi j hj, h4 i hi j hj, h5 i hi j hj⟩⟩
    ·intro h
     exact ⟨fun i hi => (h i hi).1, fun i hi => (h i hi).2.1, fun i hi j hj => ((h i hi).2.2 j hj).1, fun i hi j hj => ((h i hi).2.2 j hj).2.1, fun i hi j hj => ((h i hi).2.2 j hj).2.2⟩
   rw [e]
   generalize qH _ _ _ = r
   cases r <;> rfl
theorem yYc {k : Nat} {a : List qK} (hk : a.length < k) (hl : a.length < 9223372036854775808) : zZd k a = some (!qH (fun i => jB (a.getD i (0, 0, 0))) a.length 0) := by
 obtain ⟨x, h1, h2⟩ := zHe (L := fun c i => zPv k c a a.length i) (N := a.length) (fun i => !jB (a.getD i (0, 0, 0))) (fun c => by
  show zI8 k _ a a.length a.length = _
  unfold zI8
  simp only [qB, vH9 (Nat.lt_irrefl _), vIf]) (fun c i hi => by
  show zI8 k _ a a.length i = _
  unfold zI8 qD7
  simp only [qT, qX hi hl, qB, vIg, vH8 hi, vIe, yLh, vId]) hk
 unfold zZd qDe
 rw [h1]
 simp only [Bool.not_not] at h2
 rw [← h2]
 cases x <;> rfl
theorem yXc {k : Nat} {a : List Int} (hk : a.length < k) (hl : a.length < 9223372036854775808) : zWp k a = some (!qH (fun i => vP (a.getD i 0)) a.length 0) := by
 obtain ⟨x, h1, h2⟩ := zHe (L := fun c i => zO5 k c a a.length i) (N := a.length) (fun i => !vP (a.getD i 0)) (fun c => by
  show zKg k _ a a.length a.length = _
  unfold zKg
  simp only [qB, vH9 (Nat.lt_irrefl _), vIf]) (fun c i hi => by
  show zKg k _ a a.length i = _
  unfold zKg qBw
  simp only [qT, qX hi hl, qB, vIg, vH8 hi, vIe, yZp, vId]) hk
 unfold zWp qDt
 rw [h1]
 simp only [Bool.not_not] at h2
 rw [← h2]
 cases x <;> rfl
theorem vE1 {k : Nat} {a : List Int} (hk : a.length < k) (hl : a.length < 9223372036854775808) : zYm k a = some (!qH (fun i => zAf (a.getD i 0)) a.length 0) := by
 obtain ⟨x, h1, h2⟩ := zHe (L := fun c i => zRw k c a a.length i) (N := a.length) (fun i => !zAf (a.getD i 0)) (fun c => by
  show zKv k _ a a.length a.length = _
  unfold zKv
  simp only [qB, vH9 (Nat.lt_irrefl _), vIf]) (fun c i hi => by
  show zKv k _ a a.length i = _
  unfold zKv qGl
  simp only [qT, qX hi hl, qB, vIg, vH8 hi, vIe, yYv, vId]) hk
 unfold zYm qNx
 rw [h1]
 simp only [Bool.not_not] at h2
 rw [← h2]
 cases x <;> rfl
theorem yEg {k n : Nat} (hk : n < k) (hn : n ≤ 1000) (a : List Int) : zOj k a n = some (decide (a.length = n) && qH (fun i => vP (a.getD i 0)) n 0) := by
 unfold zOj
 simp only [zId]
 by_cases h : a.length = n
 ·rw [yXc (by omega) (by omega)]
  simp only [h, decide_true, vIe, vId, Bool.not_not, Bool.true_and]
 ·simp only [vH9 h, vIf, Bool.false_and]
theorem vAz {k n : Nat} (hk : n < k) (hn : n ≤ 1000) (a : List Int) : zVr k a n = some (decide (a.length = n) && qH (fun i => zAf (a.getD i 0)) n 0) := by
 unfold zVr
 simp only [zId]
 by_cases h : a.length = n
 ·rw [vE1 (by omega) (by omega)]
  simp only [h, decide_true, vIe, vId, Bool.not_not, Bool.true_and]
 ·simp only [vH9 h, vIf, Bool.false_and]
theorem yWw {k n : Nat} (hk : n < k) (hn : n ≤ 1000) (m : List (List Int)) : zW0 k m n = some (decide (m.length = n) && qH (fun i => decide ((m.getD i []).length = n) && qH (fun j => vP (cell m i j)) n 0) n 0) := by
 unfold zW0
 simp only [zId]
 by_cases h : m.length = n
 ·have := zEs (L := fun c i => zPl k c n m n i) (N := n) (fun i => decide ((m.getD i []).length = n) && qH (fun j => vP (cell m i j)) n 0) (.inl ()) (.inr false) (fun c => by
    show zK1 k _ n m n n = _
    unfold zK1
    simp only [qB, vH9 (Nat.lt_irrefl n), vIf]) (fun c i hi => by
    show zK1 k _ n m n i = _
    unfold zK1
    simp only [qT, qX hi (by omega), qB, vIg, h, vH8 hi, vIe, yEg hk hn, vId]
    show (bif !(decide ((m.getD i []).length = n) && qH (fun j => vP (cell m i j)) n 0) then _ else _) = _
    generalize (decide ((m.getD i []).length = n) && qH (fun j => vP (cell m i j)) n 0) = r
    cases r <;> rfl) hk
  simp only [h, decide_true, vIi, vIf, Bool.true_and]
  rw [this]
  generalize qH _ _ _ = r
  cases r <;> rfl
 ·simp only [vH9 h, vIj, vIe, Bool.false_and]
theorem yTn {k n : Nat} (hk : n < k) (hn : n ≤ 1000) (m : List (List Int)) : zWz k m n = some (decide (m.length = n) && qH (fun i => decide ((m.getD i []).length = n) && qH (fun j => zAf (cell m i j)) n 0) n 0) := by
 unfold zWz
 simp only [zId]
 by_cases h : m.length = n
 ·have := zEs (L := fun c i => zQ1 k c n m n i) (N := n) (fun i => decide ((m.getD i []).length = n) && qH (fun j => zAf (cell m i j)) n 0) (.inl ()) (.inr false) (fun c => by
    show zKb k _ n m n n = _
    unfold zKb
    simp only [qB, vH9 (Nat.lt_irrefl n), vIf]) (fun c i hi => by
    show zKb k _ n m n i = _
    unfold zKb
    simp only [qT, qX hi (by omega), qB, vIg, h, vH8 hi, vIe, vAz hk hn, vId]
    show (bif !(decide ((m.getD i []).length = n) && qH (fun j => zAf (cell m i j)) n 0) then _ else _) = _
    generalize (decide ((m.getD i []).length = n) && qH (fun j => zAf (cell m i j)) n 0) = r
    cases r <;> rfl) hk
  simp only [h, decide_true, vIi, vIf, Bool.true_and]
  rw [this]
  generalize qH _ _ _ = r
  cases r <;> rfl
 ·simp only [vH9 h, vIj, vIe, Bool.false_and]
theorem yRk {k N i : Nat} (hk : N < k) (hN : N ≤ 1000) (hi : i < N) {p q : List (List Int)} {u : Int} (hp : p.length = N) (hpr : ∀ j, j < N → (p.getD j []).length = N) :
  zKi k k p i q u i (p.getD i []) N 0 = some (bif qH (fun j => decide (cell p j i = zC (0 - cell p i j))) N 0 then .inl (p, q, u, (i : Int)) else .inr false) := by
 refine zEs (L := fun c j => zKi k c p i q u i (p.getD i []) N j) (N := N) _ (.inl (p, q, u, (i : Int))) (.inr false) (fun c => ?_) (fun c j hj => ?_) hk
 ·show zJ4 k _ p i q u i (p.getD i []) N N = _
  unfold zJ4
  simp only [qB, vH9 (Nat.lt_irrefl N), vIf]
 ·show zJ4 k _ p i q u i (p.getD i []) N j = _
  unfold zJ4
  simp only [qT, qX hj (show N < 9223372036854775808 by omega), qB, vIg, hp, hpr i hi, hpr j hj, vH8 hj, vH8 hi, vIe]
  show (bif !decide (cell p j i = zC (0 - cell p i j)) then _ else _) = _
  generalize decide (cell p j i = zC (0 - cell p i j)) = r
  cases r <;> rfl
theorem vD8 {k N : Nat} (hk : N < k) (hN : N ≤ 1000) {p : List (List Int)} (hp : p.length = N) (hpr : ∀ j, j < N → (p.getD j []).length = N) :
  zSr k p = some (zFp N p) := by
 have := zEs (L := fun c i => zN2 k c p p N i) (N := N) (fun i => qH (fun j => decide (cell p j i = zC (0 - cell p i j))) N 0) (.inl ()) (.inr false) (fun c => by
   show zK9 k _ p p N N = _
   unfold zK9
   simp only [qB, vH9 (Nat.lt_irrefl N), vIf]) (fun c i hi => by
   show zK9 k _ p p N i = _
   unfold zK9
   simp only [qT, qB, vIg, hp, hpr i hi, vH8 hi, vIe, yRk hk hN hi hp hpr, vId]
   generalize qH _ N 0 = r
   cases r <;> simp only [vIe, vIf, qX hi (show N < 9223372036854775808 by omega)]) hk
 unfold zSr
 simp only [hp]
 rw [this]
 have e : qH (fun i => qH (fun j => decide (cell p j i = zC (0 - cell p i j))) N 0) N 0 = zFp N p := by
  rw [Bool.eq_iff_iff]
  simp only [zFp, zAv]
  exact ⟨fun h i hi j hj => h j hj i hi, fun h i hi j hj => h j hj i hi⟩
 rw [e]
 generalize zFp N p = r
 cases r <;> rfl
theorem yWm {k : Nat} (hk : 10 < k) (a : List qK) (b : List (List Int)) (m : List Int) (p : List (List Int)) : zQ0 k a b m p = some (isB a b m p) := by
 unfold zQ0
 have l1 : decide ((a.length : Int) < 1) = !decide (1 ≤ a.length) := by
  by_cases h : 1 ≤ a.length
  ·rw [vH8 h, vH9 (by omega)]; rfl
  ·rw [vH9 h, vH8 (by omega)]; rfl
 have l2 : decide ((a.length : Int) > 6) = !decide (a.length ≤ 6) := by
  by_cases h : a.length ≤ 6
  ·rw [vH8 h, vH9 (by omega)]; rfl
  ·rw [vH9 h, vH8 (by omega)]; rfl
 rw [l1, l2]
 unfold isB
 dsimp only
 by_cases h1 : 1 ≤ a.length
 case neg => rw [vH9 h1]; rfl
 by_cases h2 : a.length ≤ 6
 case neg => rw [vH8 h1, vH9 h2]; rfl
 rw [vH8 h1, vH8 h2]
 simp only [vIi, vIf, Bool.true_and]
 rw [yYc (by omega) (by omega), yWw (by omega) (by omega), yEg (by omega) (by omega), yTn (by omega) (by omega)]
 simp only [vId]
 generalize hA : qH (fun i => jB (a.getD i (0, 0, 0))) a.length 0 = A
 have sq : ∀ (q : Int → Bool) (m : List (List Int)), (decide (m.length = a.length) && qH (fun i => decide ((m.getD i []).length = a.length) && qH (fun j => q (cell m i j)) a.length 0) a.length 0) = (sqL a.length m && zDk q a.length m) := by
  intro q m
  rw [Bool.eq_iff_iff]
  simp only [sqL, zDk, vIh, vIc, zAv]
  exact ⟨fun h => ⟨⟨h.1, fun i hi => (h.2 i hi).1⟩, fun i hi => (h.2 i hi).2⟩, fun h => ⟨h.1.1, fun i hi => ⟨h.1.2 i hi, h.2 i hi⟩⟩⟩
 rw [sq vP b, sq zAf p]
 cases hp : sqL a.length p with
 | false =>
  cases A <;> cases sqL a.length b <;> cases zDk vP a.length b <;> cases decide (m.length = a.length) <;> cases qH (fun i => vP (m.getD i 0)) a.length 0 <;> rfl
 | true =>
  simp only [sqL, vIh, vIc, zAv] at hp
  rw [vD8 (N := a.length) (by omega) (by omega) hp.1 hp.2]
  cases A <;> cases sqL a.length b <;> cases zDk vP a.length b <;> cases decide (m.length = a.length) <;> cases qH (fun i => vP (m.getD i 0)) a.length 0 <;> cases zDk zAf a.length p <;> cases zFp a.length p <;> rfl
theorem qZo {k N : Nat} {s : List (List Int)} (hN : s.length = N) (hl : N ≤ 1000) (hr : ∀ i, i < N → (s.getD i []).length ≤ 1000) : ∀ (c i n : Nat), i + c = N → c < n → qK1 k n s i (s.take i) = some s
 | 0, i, n, h, hn => by
  obtain ⟨n, rfl⟩ : ∃ m, n = m + 1 := ⟨n - 1, by omega⟩
  show zRo k _ s i (s.take i) = _
  unfold zRo
  have : ¬ i < s.length := by omega
  simp only [qB, vH9 this, vIf]
  rw [List.take_of_length_le (by omega)]
 | c + 1, i, n, h, hn => by
  obtain ⟨n, rfl⟩ : ∃ m, n = m + 1 := ⟨n - 1, by omega⟩
  show zRo k _ s i (s.take i) = _
  unfold zRo
  have hi : i < s.length := by omega
  have h1 := hr i (by omega)
  have e1 : zY (0 + (s.getD i []).length) 8 = true := wA (by omega) (by omega)
  have e2 : zY ((s.take i).length + 1) 24 = true := wA (by rw [List.length_take]; omega) (by rw [List.length_take]; omega)
  simp only [qT, qX hi (show s.length < 9223372036854775808 by omega), qB, vIg, vH8 hi, vIe, e1, e2]
  rw [zAp s i [] hi]
  exact qZo hN hl hr c (i + 1) n (by omega) (by omega)
theorem yEk {k : Nat} {s : List (List Int)} (hl : s.length ≤ 1000) (hk : s.length < k) (hr : ∀ i, i < s.length → (s.getD i []).length ≤ 1000) : zV2 k s = some s := by
 unfold zV2
 have := qZo (k := k) rfl hl hr s.length 0 k (by omega) hk
 rw [List.take_zero] at this
 have e : ((0 : Nat) : Int) = 0 := rfl
 rw [e] at this
 rw [this]
 rfl
theorem yM7 {k N : Nat} {s : List (List Int)} (hN : s.length = N) (hl : N ≤ 1000) (hr : ∀ i, i < N → (s.getD i []).length ≤ 1000) : ∀ (c i n : Nat), i + c = N → c < n → zQf k n s N i (s.take i) N = some (s, N)
 | 0, i, n, h, hn => by
  obtain ⟨n, rfl⟩ : ∃ m, n = m + 1 := ⟨n - 1, by omega⟩
  show zNn k _ s N i (s.take i) N = _
  unfold zNn
  have : ¬ i < N := by omega
  simp only [qB, vH9 this, vIf]
  rw [List.take_of_length_le (by omega)]
 | c + 1, i, n, h, hn => by
  obtain ⟨n, rfl⟩ : ∃ m, n = m + 1 := ⟨n - 1, by omega⟩
  show zNn k _ s N i (s.take i) N = _
  unfold zNn zDo
  have hi : i < N := by omega
  have h1 := hr i (by omega)
  have e1 : zY (0 + (s.getD i []).length) 8 = true := wA (by omega) (by omega)
  have e2 : Nat.beq i (s.take i).length = true := by rw [List.length_take, Nat.min_eq_left (by omega)]; simp
  simp only [qT, qX hi (show N < 9223372036854775808 by omega), qB, vIg, vH8 hi, vIe, e1, e2, hN, vId]
  rw [zAp s i [] (by omega)]
  exact yM7 hN hl hr c (i + 1) n (by omega) (by omega)
theorem yAo {k : Nat} {s : List (List Int)} (hl : s.length ≤ 1000) (hk : s.length < k) (hr : ∀ i, i < s.length → (s.getD i []).length ≤ 1000) : zPb k s = some s := by
 unfold zPb qBi
 have := yM7 (k := k) rfl hl hr s.length 0 k (by omega) hk
 rw [List.take_zero] at this
 have e : ((0 : Nat) : Int) = 0 := rfl
 rw [e] at this
 have e1 : zY (0 + s.length) 24 = true := wA (by omega) (by omega)
 simp only [e1, vIe, vId]
 rw [this]
 simp only [vId, vEf]
 simp
structure Sized (a : List qK) (b : List (List Int)) (m : List Int) (p : List (List Int)) : Prop where
 n1 : 1 ≤ a.length
 n6 : a.length ≤ 6
 bl : b.length = a.length
 br : ∀ i, i < a.length → (b.getD i []).length = a.length
 ml : m.length = a.length
 pl : p.length = a.length
 pr : ∀ i, i < a.length → (p.getD i []).length = a.length
structure wP (a : List qK) (b : List (List Int)) (m : List Int) (p : List (List Int)) : Prop extends Sized a b m p where
 acct : ∀ i, i < a.length → jB (a.getD i (0, 0, 0)) = true
 mul : ∀ i, i < a.length → vP (m.getD i 0) = true
 bil : ∀ i, i < a.length → ∀ j, j < a.length → vP (cell b i j) = true
 net : ∀ i, i < a.length → ∀ j, j < a.length → zAf (cell p i j) = true
 turn : ∀ i, i < a.length → ∀ j, j < a.length → cell p i j = zC (0 - cell p j i)
theorem qJh {a : List qK} {b : List (List Int)} {m : List Int} {p : List (List Int)} : isB a b m p = true ↔ wP a b m p := by
 unfold isB
 simp only [vIh, vIc, sqL, zDk, zFp, zAv]
 constructor
 ·rintro ⟨h1, h2, ⟨h3, h4⟩, ⟨h5, h6⟩, h7, h8, h9, h10, h11, h12⟩
  exact { n1 := h1, n6 := h2, bl := h3, br := h4, ml := h7, pl := h5, pr := h6, acct := h8, mul := h9, bil := h10, net := h11, turn := h12 }
 ·intro h
  exact ⟨h.n1, h.n6, ⟨h.bl, h.br⟩, ⟨h.pl, h.pr⟩, h.ml, h.acct, h.mul, h.bil, h.net, h.turn⟩
theorem yXr {k : Nat} (hk : 10 < k) {a : List qK} {b : List (List Int)} {m : List Int} {p : List (List Int)} (h : Sized a b m p) : qJw k a b m p = some (a, b, m, p) := by
 obtain ⟨h1, h2, h3, h4, h5, h6, h7⟩ := h
 unfold qJw
 have e1 : zY (0 + a.length) 24 = true := wA (by omega) (by omega)
 have e2 : zY (0 + m.length) 8 = true := wA (by omega) (by omega)
 rw [yEk (s := b) (by omega) (by omega) (fun i hi => by rw [h4 i (by omega)]; omega), yEk (s := p) (by omega) (by omega) (fun i hi => by rw [h7 i (by omega)]; omega)]
 simp only [e1, e2, vIe, vId]
theorem zQ6 {k : Nat} (hk : 10 < k) {a : List qK} {b : List (List Int)} {m : List Int} {p : List (List Int)} (h : Sized a b m p) : jS k a b m p = some (a, b, m, p) := by
 obtain ⟨h1, h2, h3, h4, h5, h6, h7⟩ := h
 unfold jS qJp zDo
 have e1 : zY (0 + a.length) 24 = true := wA (by omega) (by omega)
 have e2 : zY (0 + m.length) 8 = true := wA (by omega) (by omega)
 rw [yAo (s := b) (by omega) (by omega) (fun i hi => by rw [h4 i (by omega)]; omega), yAo (s := p) (by omega) (by omega) (fun i hi => by rw [h7 i (by omega)]; omega)]
 simp only [e1, e2, vIe, vId]
abbrev pd : zB := (0, (0, (0, (0, (0, (0, 0))))))
abbrev ad : qK := (0, (0, 0))
def zD0 (n : Nat) (p : zB) : Bool := decide (p.2.1 ≥ 0) && (decide (p.2.1 < (n : Int)) && (decide (p.2.2.1 ≥ 0) && (decide (p.2.2.1 < (n : Int)) && (!decide (p.2.1 = p.2.2.1) && (decide (p.2.2.2.1 ≥ 1) && (decide (p.2.2.2.1 ≤ 1099511627776) && (decide (p.2.2.2.2.1 ≥ 1) && decide (p.2.2.2.2.1 ≤ 3))))))))
structure yN (n : Nat) (p : zB) : Prop where
 f0 : 0 ≤ p.2.1
 f1 : p.2.1 < n
 t0 : 0 ≤ p.2.2.1
 t1 : p.2.2.1 < n
 ne : p.2.1 ≠ p.2.2.1
 a1 : 1 ≤ p.2.2.2.1
 a2 : p.2.2.2.1 ≤ 1099511627776
 c1 : 1 ≤ p.2.2.2.2.1
 c3 : p.2.2.2.2.1 ≤ 3
theorem yJn {n : Nat} {p : zB} : zD0 n p = true ↔ yN n p := by
 unfold zD0
 simp only [vIh, vIc, Bool.not_eq_true', decide_eq_false_iff_not]
 exact ⟨fun ⟨h1, h2, h3, h4, h5, h6, h7, h8, h9⟩ => ⟨h1, h2, h3, h4, h5, h6, h7, h8, h9⟩, fun ⟨h1, h2, h3, h4, h5, h6, h7, h8, h9⟩ => ⟨h1, h2, h3, h4, h5, h6, h7, h8, h9⟩⟩
theorem qJ6 (k : Nat) (a : List qK) (b : List (List Int)) (m : List Int) (p : List (List Int)) (i f t am c s ti : Int) : zI5 k a b m p i f t am c s ti = some (zD0 a.length (i, f, t, am, c, s, ti)) := by
 unfold zI5 zD0
 cases decide (f ≥ 0) <;> cases decide (f < (a.length : Int)) <;> cases decide (t ≥ 0) <;> cases decide (t < (a.length : Int)) <;> cases decide (f = t) <;> cases decide (am ≥ 1) <;> cases decide (am ≤ 1099511627776) <;> cases decide (c ≥ 1) <;> rfl
theorem yQv (k : Nat) (a : List qK) (b : List (List Int)) (m : List Int) (p : List (List Int)) (i f t am c s ti : Int) : qZ9 k a b m p i f t am c s ti = some (zD0 a.length (i, f, t, am, c, s, ti)) := qJ6 k a b m p i f t am c s ti
def zC3 (n : Nat) (l : List zB) : Bool := qH (fun i => zD0 n (l.getD i pd)) l.length 0
theorem zJr {n : Nat} {l : List zB} : zC3 n l = true ↔ ∀ p ∈ l, yN n p := by
 unfold zC3
 rw [zAv]
 constructor
 ·intro h p hp
  obtain ⟨i, hi, rfl⟩ := List.getElem_of_mem hp
  have := h i hi
  rw [List.getD_eq_getElem?_getD, List.getElem?_eq_getElem hi] at this
  exact yJn.1 this
 ·intro h i hi
  exact yJn.2 (h _ (zAa hi))
theorem vFy {k : Nat} {l : List zB} (hk : l.length < k) (hl : l.length < 9223372036854775808) (a : List qK) (b : List (List Int)) (m : List Int) (p : List (List Int)) : zXz k l a b m p = some (!zC3 a.length l) := by
 obtain ⟨x, h1, h2⟩ := zHe (L := fun c i => zPc k c l l.length i a b m p) (N := l.length) (fun i => !zD0 a.length (l.getD i pd)) (fun c => by
  show zMy k _ l l.length l.length a b m p = _
  unfold zMy
  simp only [qB, vH9 (Nat.lt_irrefl _), vIf]) (fun c i hi => by
  show zMy k _ l l.length i a b m p = _
  unfold zMy qHh
  simp only [qT, qX hi hl, qB, vIg, vH8 hi, vIe, qJ6, vId]) hk
 unfold zXz qAl
 rw [h1]
 simp only [Bool.not_not] at h2
 unfold zC3
 rw [← h2]
 cases x <;> rfl
theorem yTv {k : Nat} {l : List zB} (hk : l.length < k) (hl : l.length < 9223372036854775808) (a : List qK) (b : List (List Int)) (m : List Int) (p : List (List Int)) : qF1 k a b m p l = some (zC3 a.length l && decide (l.length ≤ 64)) := by
 unfold qF1
 have := zEs (L := fun c i => qHp k c l i a b m p) (N := l.length) (fun i => zD0 a.length (l.getD i pd)) (.inl l) (.inr false) (fun c => by
  show zN3 k _ l l.length a b m p = _
  unfold zN3
  simp only [qB, vH9 (Nat.lt_irrefl _), vIf]) (fun c i hi => by
  show zN3 k _ l i a b m p = _
  unfold zN3
  simp only [qT, qX hi hl, qB, vIg, vH8 hi, vIe, yQv, vId]
  show (bif !zD0 a.length (l.getD i pd) then _ else _) = _
  generalize zD0 a.length (l.getD i pd) = r
  cases r <;> rfl) hk
 rw [this]
 unfold zC3
 have e : decide (((l.length : Nat) : Int) ≤ 64) = decide (l.length ≤ 64) := by
  by_cases h : l.length ≤ 64
  ·rw [vH8 h, vH8 (by omega)]
  ·rw [vH9 h, vH9 (by omega)]
 generalize qH _ _ _ = r
 cases r
 ·rfl
 ·simp only [vIe, vId, Bool.true_and, e]
def gB (i : Nat) (p : zB) : Int := (if p.2.2.1 = i then p.2.2.2.1 else 0) - (if p.2.1 = i then p.2.2.2.1 else 0)
def gS (i j : Nat) (p : zB) : Int := if p.2.1 = i ∧ p.2.2.1 = j then p.2.2.2.1 else 0
def gR (i : Nat) (p : zB) : Int := if p.2.1 = i ∧ p.2.2.2.2.1 ≠ 3 then p.2.2.2.1 else 0
def vU (r s : Int) : Int := if s ≥ r then 0 else r - s
theorem vE8 {r s t : Int} (hs : 0 ≤ s) (ht : 0 ≤ t) : vU (vU r s) t = vU r (s + t) := by
 unfold vU
 by_cases h : s ≥ r
 ·rw [if_pos h, if_pos (by omega), if_pos (by omega)]
 ·rw [if_neg h]
  by_cases h' : t ≥ r - s
  ·rw [if_pos h', if_pos (by omega)]
  ·rw [if_neg h', if_neg (by omega)]; omega
theorem qA3 {r : Int} (hr : 0 ≤ r) : vU r 0 = r := by
 unfold vU
 by_cases h : (0 : Int) ≥ r
 ·rw [if_pos h]; omega
 ·rw [if_neg h]; omega
theorem vAn {r s : Int} : 0 ≤ vU r s := by
 unfold vU
 by_cases h : s ≥ r
 ·rw [if_pos h]; exact Int.le_refl 0
 ·rw [if_neg h]; omega
theorem yPr {r s : Int} (hr : 0 ≤ r) (hs : 0 ≤ s) : vU r s ≤ r := by
 unfold vU
 by_cases h : s ≥ r
 ·rw [if_pos h]; exact hr
 ·rw [if_neg h]; omega
section
variable {n : Nat} {p : zB}
theorem yX7 (h : yN n p) (i : Nat) : -1099511627776 ≤ gB i p ∧ gB i p ≤ 1099511627776 := by
 have h1 := h.a1; have h2 := h.a2; have h3 := h.ne
 unfold gB
 by_cases e : p.2.2.1 = i
 ·rw [if_pos e, if_neg (by omega)]; omega
 ·rw [if_neg e]
  by_cases e' : p.2.1 = i
  ·rw [if_pos e']; omega
  ·rw [if_neg e']; omega
theorem zVc (h : yN n p) (i j : Nat) : 0 ≤ gS i j p ∧ gS i j p ≤ 1099511627776 := by
 have h1 := h.a1; have h2 := h.a2
 unfold gS
 by_cases e : p.2.1 = i ∧ p.2.2.1 = j
 ·rw [if_pos e]; omega
 ·rw [if_neg e]; omega
theorem zZm (h : yN n p) (i : Nat) : 0 ≤ gR i p ∧ gR i p ≤ 1099511627776 := by
 have h1 := h.a1; have h2 := h.a2
 unfold gR
 by_cases e : p.2.1 = i ∧ p.2.2.2.2.1 ≠ 3
 ·rw [if_pos e]; omega
 ·rw [if_neg e]; omega
end
def vR (n : Nat) (l : List zB) : Prop := (∀ p ∈ l, yN n p) ∧ l.length ≤ 64
theorem qE4 {n : Nat} {l : List zB} (h : vR n l) (i : Nat) : -70368744177664 ≤ zS (gB i) l ∧ zS (gB i) l ≤ 70368744177664 := by
 have h1 := zM0 (g := gB i) (A := 1099511627776) fun p hp => yX7 (h.1 p hp) i
 have h2 := h.2
 have h3 : (l.length : Int) * 1099511627776 ≤ 70368744177664 := by omega
 omega
theorem zE3 {n : Nat} {l : List zB} (h : vR n l) (i j : Nat) : 0 ≤ zS (gS i j) l ∧ zS (gS i j) l ≤ 70368744177664 := by
 have h1 := zM0 (g := gS i j) (A := 1099511627776) fun p hp => by have := zVc (h.1 p hp) i j; omega
 have h0 := zGf (g := gS i j) fun p hp => (zVc (h.1 p hp) i j).1
 have h2 := h.2
 have h3 : (l.length : Int) * 1099511627776 ≤ 70368744177664 := by omega
 omega
theorem zKh {n : Nat} {l : List zB} (h : vR n l) (i : Nat) : 0 ≤ zS (gR i) l ∧ zS (gR i) l ≤ 70368744177664 := by
 have h1 := zM0 (g := gR i) (A := 1099511627776) fun p hp => by have := zZm (h.1 p hp) i; omega
 have h0 := zGf (g := gR i) fun p hp => (zZm (h.1 p hp) i).1
 have h2 := h.2
 have h3 : (l.length : Int) * 1099511627776 ≤ 70368744177664 := by omega
 omega
theorem vR.take {n : Nat} {l : List zB} (h : vR n l) (i : Nat) : vR n (l.take i) := ⟨fun p hp => h.1 p (List.mem_of_mem_take hp), by rw [List.length_take]; have := h.2; omega⟩
structure zFf (n : Nat) (a : List qK) (p : List (List Int)) (l : List zB) (a' : List qK) (p' : List (List Int)) : Prop where
 al : a'.length = n
 acct : ∀ i, i < n → a'.getD i ad = ((a.getD i ad).1 + zS (gB i) l, (a.getD i ad).2.1, vU (a.getD i ad).2.2 (zS (gR i) l))
 pl : p'.length = n
 pr : ∀ i, i < n → (p'.getD i []).length = n
 cell : ∀ i, i < n → ∀ j, j < n → cell p' i j = cell p i j + zS (gS i j) l - zS (gS j i) l
theorem vEc {n : Nat} {p q : List (List Int)} (hp : p.length = n) (hq : q.length = n) (hpr : ∀ i, i < n → (p.getD i []).length = n) (hqr : ∀ i, i < n → (q.getD i []).length = n) (h : ∀ i, i < n → ∀ j, j < n → cell p i j = cell q i j) : p = q :=
 zYq [] (by omega) fun i hi => zYq 0 (by rw [hpr i (by omega), hqr i (by omega)]) fun j hj => h i (by omega) j (by rw [hpr i (by omega)] at hj; exact hj)
theorem zFf.same {n : Nat} {a a1 a2 : List qK} {p p1 p2 : List (List Int)} {l : List zB} (x : zFf n a p l a1 p1) (y : zFf n a p l a2 p2) : a1 = a2 ∧ p1 = p2 :=
 ⟨zYq ad (by rw [x.al, y.al]) fun i hi => by have := x.al; rw [x.acct i (by omega), y.acct i (by omega)],
  vEc x.pl y.pl x.pr y.pr fun i hi j hj => by rw [x.cell i hi j hj, y.cell i hi j hj]⟩
structure zV7 (n : Nat) (a : List qK) (p : List (List Int)) : Prop where
 al : a.length = n
 pl : p.length = n
 pr : ∀ i, i < n → (p.getD i []).length = n
 bal : ∀ i, i < n → -4611686018427387904 < (a.getD i ad).1 ∧ (a.getD i ad).1 < 4611686018427387904
 res : ∀ i, i < n → 0 ≤ (a.getD i ad).2.2 ∧ (a.getD i ad).2.2 ≤ 2305843009213693952
 net : ∀ i, i < n → ∀ j, j < n → -72057594037927936 < cell p i j ∧ cell p i j < 72057594037927936
theorem wP.nums {a : List qK} {b : List (List Int)} {m : List Int} {p : List (List Int)} (h : wP a b m p) : zV7 a.length a p where
 al := rfl
 pl := h.pl
 pr := h.pr
 bal := fun i hi => by
  have := h.acct i hi
  show -4611686018427387904 < (a.getD i (0, 0, 0)).1 ∧ (a.getD i (0, 0, 0)).1 < 4611686018427387904
  simp only [jB, vIh, vIc] at this
  omega
 res := fun i hi => by
  have := h.acct i hi
  show 0 ≤ (a.getD i (0, 0, 0)).2.2 ∧ (a.getD i (0, 0, 0)).2.2 ≤ 2305843009213693952
  simp only [jB, vIh, vIc] at this
  omega
 net := fun i hi j hj => by
  have := h.net i hi j hj
  simp only [zAf, vIh, vIc] at this
  omega
theorem qJk {m : List (List Int)} {f t i j : Nat} {x : Int} (hf : f < m.length) (ht : t < (m.getD f []).length) : cell (m.set f ((m.getD f []).set t x)) i j = if i = f ∧ j = t then x else cell m i j := by
 unfold cell
 rw [vW]
 by_cases h : f = i
 ·rw [if_pos ⟨h, hf⟩, vW]
  by_cases h' : t = j
  ·rw [if_pos ⟨h', ht⟩, if_pos ⟨h.symm, h'.symm⟩]
  ·rw [if_neg (fun e => h' e.1), if_neg (fun e => h' e.2.symm), h]
 ·rw [if_neg (fun e => h e.1), if_neg (fun e => h e.1.symm)]
theorem zOa {n : Nat} {m : List (List Int)} {f t : Nat} {x : Int} (hm : m.length = n) (hr : ∀ i, i < n → (m.getD i []).length = n) (hf : f < n) : ∀ i, i < n → ((m.set f ((m.getD f []).set t x)).getD i []).length = n := by
 intro i hi
 rw [vW]
 by_cases h : f = i
 ·rw [if_pos ⟨h, by omega⟩, List.length_set]; exact hr f hf
 ·rw [if_neg (fun e => h e.1)]; exact hr i hi
def zLa (p : zB) (r : List qK) : List qK :=
 let y0 := r.set p.2.1.toNat (zC ((r.getD p.2.1.toNat ad).1 - p.2.2.2.1), (r.getD p.2.1.toNat ad).2)
 let y1 := y0.set p.2.2.1.toNat (zC ((y0.getD p.2.2.1.toNat ad).1 + p.2.2.2.1), (y0.getD p.2.2.1.toNat ad).2)
 bif !decide (p.2.2.2.2.1 = 3) then y1.set p.2.1.toNat ((y1.getD p.2.1.toNat ad).1, ((y1.getD p.2.1.toNat ad).2.1, vZ false (zC ((y1.getD p.2.1.toNat ad).2.2 - p.2.2.2.1)) 0)) else y1
def zGr (p : zB) (m : List (List Int)) : List (List Int) :=
 let y3 := m.set p.2.1.toNat ((m.getD p.2.1.toNat []).set p.2.2.1.toNat (zC ((m.getD p.2.1.toNat []).getD p.2.2.1.toNat 0 + p.2.2.2.1)))
 y3.set p.2.2.1.toNat ((y3.getD p.2.2.1.toNat []).set p.2.1.toNat (zC ((y3.getD p.2.2.1.toNat []).getD p.2.1.toNat 0 - p.2.2.2.1)))
theorem yWx (p : zB) (r : List qK) : (zLa p r).length = r.length := by
 unfold zLa
 cases decide (p.2.2.2.2.1 = 3) <;> simp
theorem vCs {n : Nat} {p : zB} (h : yN n p) {r : List qK} (hr : r.length = n) {i : Nat} (hi : i < n) (hb : ∀ i, i < n → -4611826755915743232 < (r.getD i ad).1 ∧ (r.getD i ad).1 < 4611826755915743232)
  (hz : ∀ i, i < n → 0 ≤ (r.getD i ad).2.2 ∧ (r.getD i ad).2.2 ≤ 2305843009213693952) : (zLa p r).getD i ad = ((r.getD i ad).1 + gB i p, (r.getD i ad).2.1, vU (r.getD i ad).2.2 (gR i p)) := by
 obtain ⟨f0, f1, t0, t1, ne, a1, a2, c1, c3⟩ := h
 obtain ⟨f, hf⟩ : ∃ f : Nat, p.2.1 = f := ⟨p.2.1.toNat, by omega⟩
 obtain ⟨t, ht⟩ : ∃ t : Nat, p.2.2.1 = t := ⟨p.2.2.1.toNat, by omega⟩
 have hft : f ≠ t := by omega
 have hfn : f < n := by omega
 have htn : t < n := by omega
 have bf := hb f hfn
 have bt := hb t htn
 have zf := hz f hfn
 have e1 : (r.set f (zC ((r.getD f ad).1 - p.2.2.2.1), (r.getD f ad).2)).getD t ad = r.getD t ad := by rw [vW, if_neg (fun e => hft e.1)]
 have key : ∀ j, j < n → ((r.set f (zC ((r.getD f ad).1 - p.2.2.2.1), (r.getD f ad).2)).set t (zC ((r.getD t ad).1 + p.2.2.2.1), (r.getD t ad).2)).getD j ad = ((r.getD j ad).1 + gB j p, (r.getD j ad).2) := by
  intro j hj
  unfold gB
  rw [hf, ht, vW]
  by_cases hjt : t = j
  ·subst hjt
   rw [if_pos ⟨rfl, by rw [List.length_set]; omega⟩, if_pos rfl, if_neg (by omega), yH (by omega) (by omega)]
   simp
  ·rw [if_neg (fun e => hjt e.1), if_neg (by omega), vW]
   by_cases hjf : f = j
   ·subst hjf
    rw [if_pos ⟨rfl, by omega⟩, if_pos rfl, yH (by omega) (by omega)]
    simp only [Int.zero_sub]; rfl
   ·rw [if_neg (fun e => hjf e.1), if_neg (by omega)]
    simp
 unfold zLa
 simp only [hf, ht, vIg, e1]
 unfold gR
 cases hc : decide (p.2.2.2.2.1 = 3) with
 | true =>
  have hc' : p.2.2.2.2.1 = 3 := by simpa using hc
  simp only [vIi, vIf]
  rw [key i hi, if_neg (fun e => e.2 hc'), qA3 (hz i hi).1]
 | false =>
  have hc' : p.2.2.2.2.1 ≠ 3 := by simpa using hc
  simp only [vIj, vIe]
  rw [vW]
  by_cases hif : f = i
  ·subst hif
   rw [if_pos ⟨rfl, by simp only [List.length_set]; omega⟩, key f hfn, if_pos ⟨hf, hc'⟩]
   have : vZ false (zC ((r.getD f ad).2.2 - p.2.2.2.1)) 0 = vU (r.getD f ad).2.2 p.2.2.2.1 := by
    rw [yH (by omega) (by omega)]
    unfold vZ vU
    simp only [vIf]
    by_cases h : p.2.2.2.1 ≥ (r.getD f ad).2.2
    ·rw [if_pos h]
     by_cases h' : (0 : Int) > (r.getD f ad).2.2 - p.2.2.2.1
     ·rw [vH8 h']; rfl
     ·rw [vH9 h']
      show (r.getD f ad).2.2 - p.2.2.2.1 = 0
      omega
    ·rw [if_neg h, vH9 (by omega)]; rfl
   rw [this]
  ·rw [if_neg (fun e => hif e.1), key i hi, if_neg (by omega), qA3 (hz i hi).1]
theorem yHy {n : Nat} {p : zB} (h : yN n p) {m : List (List Int)} (hm : m.length = n) (hr : ∀ i, i < n → (m.getD i []).length = n) (hb : ∀ i, i < n → ∀ j, j < n → -72128000000000000 < cell m i j ∧ cell m i j < 72128000000000000) :
  (zGr p m).length = n ∧ (∀ i, i < n → ((zGr p m).getD i []).length = n) ∧ ∀ i, i < n → ∀ j, j < n → cell (zGr p m) i j = cell m i j + gS i j p - gS j i p := by
 obtain ⟨f0, f1, t0, t1, ne, a1, a2, c1, c3⟩ := h
 obtain ⟨f, hf⟩ : ∃ f : Nat, p.2.1 = f := ⟨p.2.1.toNat, by omega⟩
 obtain ⟨t, ht⟩ : ∃ t : Nat, p.2.2.1 = t := ⟨p.2.2.1.toNat, by omega⟩
 have hft : f ≠ t := by omega
 have hfn : f < n := by omega
 have htn : t < n := by omega
 unfold zGr
 simp only [hf, ht, vIg]
 have r1 := zOa (x := zC ((m.getD f []).getD t 0 + p.2.2.2.1)) (t := t) hm hr hfn
 have c1 : ∀ i j, cell (m.set f ((m.getD f []).set t (zC ((m.getD f []).getD t 0 + p.2.2.2.1)))) i j = if i = f ∧ j = t then zC (cell m f t + p.2.2.2.1) else cell m i j := fun i j => qJk (by omega) (by rw [hr f hfn]; omega)
 refine ⟨by simp only [List.length_set]; exact hm, zOa (by rw [List.length_set]; exact hm) r1 htn, fun i hi j hj => ?_⟩
 rw [qJk (by rw [List.length_set]; omega) (by rw [r1 t htn]; omega)]
 have e2 : ((m.set f ((m.getD f []).set t (zC ((m.getD f []).getD t 0 + p.2.2.2.1)))).getD t []).getD f 0 = cell m t f := by
  show cell _ t f = _
  rw [c1, if_neg (fun e => hft e.1.symm)]
 rw [e2, c1]
 unfold gS
 rw [hf, ht]
 have b1 := hb f hfn t htn
 have b2 := hb t htn f hfn
 by_cases h1 : i = t ∧ j = f
 ·obtain ⟨rfl, rfl⟩ := h1
  rw [if_pos ⟨rfl, rfl⟩, if_neg (by omega), if_pos ⟨rfl, rfl⟩, yH (by omega) (by omega)]
  omega
 ·rw [if_neg h1]
  by_cases h2 : i = f ∧ j = t
  ·obtain ⟨rfl, rfl⟩ := h2
   rw [if_pos ⟨rfl, rfl⟩, if_pos ⟨rfl, rfl⟩, if_neg (by omega), yH (by omega) (by omega)]
   omega
  ·rw [if_neg h2, if_neg (by omega), if_neg (by omega)]
   omega
theorem yP4 {k n : Nat} {a : List qK} {b : List (List Int)} {m : List Int} {p : List (List Int)} {l : List zB} (hk : l.length < k) (hx : zV7 n a p) (hl : vR n l) (b0 : List qK) (b1 : List (List Int)) (b2 : List Int) (b3 : List (List Int)) :
  ∃ a' p', zJl k k l l.length 0 b0 b1 b2 b3 a b m p = some (b0, b1, b2, b3, a', b, m, p') ∧ zFf n a p l a' p' := by
 have := wZ (L := fun c i (s : List qK × List (List Int)) => zJl k c l l.length i b0 b1 b2 b3 s.1 b m s.2) (N := l.length) (fun s => (b0, b1, b2, b3, s.1, b, m, s.2)) (fun i s => zFf n a p (l.take i) s.1 s.2) (fun c s hs => by
   show zJy k _ l l.length l.length b0 b1 b2 b3 s.1 b m s.2 = _
   unfold zJy
   simp only [qB, vH9 (Nat.lt_irrefl _), vIf]) (fun c i s hi hs => by
   refine ⟨(zLa (l.getD i pd) s.1, zGr (l.getD i pd) s.2), ?_, ?_⟩
   ·show zJy k _ l l.length i b0 b1 b2 b3 s.1 b m s.2 = _
    have hmay : yN n (l.getD i pd) := hl.1 _ (zAa hi)
    unfold zJy zLa zGr
    have hl64 := hl.2
    simp only [qT, qX hi (show l.length < 9223372036854775808 by omega), qB, vIg, vH8 hi, vIe]
    obtain ⟨f0, f1, t0, t1, ne, a1, a2, c1, c3⟩ := hmay
    obtain ⟨f, hf⟩ : ∃ f : Nat, (l.getD i pd).2.1 = f := ⟨(l.getD i pd).2.1.toNat, by omega⟩
    obtain ⟨t, ht⟩ : ∃ t : Nat, (l.getD i pd).2.2.1 = t := ⟨(l.getD i pd).2.2.1.toNat, by omega⟩
    have hfn : f < n := by omega
    have htn : t < n := by omega
    have r1 := zOa (x := zC ((s.2.getD f []).getD t 0 + (l.getD i pd).2.2.2.1)) (t := t) hs.pl hs.pr hfn
    simp only [hf, ht, vIg, qT, hs.al, hs.pl, List.length_set, hs.pr f hfn, r1 t htn, vH8 hfn, vH8 htn, vIe, zGh, vId]
    cases decide ((l.getD i pd).2.2.2.2.1 = 3) <;> rfl
   ·have hmay : yN n (l.getD i pd) := hl.1 _ (zAa hi)
    have hrow := hl.take i
    have hp := yHy hmay hs.pl hs.pr (fun i' hi' j' hj' => by
     rw [hs.cell i' hi' j' hj']
     have h1 := hx.net i' hi' j' hj'
     have h2 := zE3 hrow i' j'
     have h3 := zE3 hrow j' i'
     omega)
    refine ⟨by rw [yWx]; exact hs.al, fun i' hi' => ?_, hp.1, hp.2.1, fun i' hi' j' hj' => ?_⟩
    ·rw [vCs hmay hs.al hi' (fun j hj => by
       rw [hs.acct j hj]
       have h1 := hx.bal j hj
       have h2 := qE4 hrow j
       dsimp only
       omega) (fun j hj => by
       rw [hs.acct j hj]
       have h1 := hx.res j hj
       have h2 := zKh hrow j
       dsimp only
       exact ⟨vAn, Int.le_trans (yPr h1.1 h2.1) h1.2⟩), hs.acct i' hi', ← zAp l i pd hi, zBt, zBt]
     dsimp only [zS]
     rw [vE8 (zKh hrow i').1 (zZm hmay i').1, Int.add_zero, Int.add_zero, Int.add_assoc]
    ·rw [hp.2.2 i' hi' j' hj', hs.cell i' hi' j' hj', ← zAp l i pd hi, zBt, zBt]
     dsimp only [zS]
     omega) (s := (a, p)) hk ⟨hx.al, fun i hi => by
      rw [List.take_zero]
      show a.getD i ad = ((a.getD i ad).1 + 0, (a.getD i ad).2.1, vU (a.getD i ad).2.2 0)
      rw [qA3 (hx.res i hi).1, Int.add_zero], hx.pl, hx.pr, fun i hi j hj => by
      rw [List.take_zero]
      show cell p i j = cell p i j + 0 - 0
      omega⟩
 obtain ⟨s, h1, h2⟩ := this
 rw [List.take_of_length_le (Nat.le_refl _)] at h2
 exact ⟨s.1, s.2, h1, h2⟩
theorem qPa {k n : Nat} {l : List zB} (hk : l.length < k) (hl : vR n l) (i j : Nat) : zZh k l i j = some (zS (gS i j) l) := by
 have hl64 := hl.2
 obtain ⟨s, h1, h2⟩ := wZ (L := fun c x (s : Int) => zZt k c l i j s x) (N := l.length) (fun s => s) (fun x s => s = zS (gS i j) (l.take x)) (fun c s hs => by
   show zOm k _ l i j s l.length = _
   unfold zOm
   simp only [qB, vH9 (Nat.lt_irrefl _), vIf]) (fun c x s hx hs => by
   refine ⟨zS (gS i j) (l.take (x + 1)), ?_, rfl⟩
   show zOm k _ l i j s x = _
   have hb := zE3 (hl.take x) i j
   have hm : yN n (l.getD x pd) := hl.1 _ (zAa hx)
   have hg := zVc hm i j
   have e : zS (gS i j) (l.take (x + 1)) = s + gS i j (l.getD x pd) := by
    rw [← zAp l x pd hx, zBt, hs]
    show _ + (_ + 0) = _
    omega
   have w := yH (x := s + (l.getD x pd).2.2.2.1) (by have := hm.a1; rw [hs]; omega) (by have := hm.a2; rw [hs]; omega)
   unfold zOm
   simp only [qT, qX hx (show l.length < 9223372036854775808 by omega), qB, vIg, vH8 hx, vIe]
   rw [e]
   unfold gS
   by_cases c1 : (l.getD x pd).2.1 = (i : Int)
   ·rw [vH8 c1]
    by_cases c2 : (l.getD x pd).2.2.1 = (j : Int)
    ·rw [vH8 c2, if_pos ⟨c1, c2⟩, w]; rfl
    ·rw [vH9 c2, if_neg (fun e => c2 e.2), Int.add_zero]; rfl
   ·rw [vH9 c1, if_neg (fun e => c1 e.1), Int.add_zero]; rfl) (s := 0) hk rfl
 unfold zZh
 rw [h1]
 rw [List.take_of_length_le (Nat.le_refl _)] at h2
 rw [h2]
 rfl
theorem vHc {k n : Nat} {l : List zB} (hk : l.length < k) (hl : vR n l) (i j : Nat) : qDc k l i j = some (zS (gS i j) l - zS (gS j i) l) := by
 unfold qDc
 rw [qPa hk hl i j, qPa hk hl j i]
 have h1 := zE3 hl i j
 have h2 := zE3 hl j i
 simp only [vId]
 rw [yH (by omega) (by omega)]
def gN (i : Nat) (p : zB) : Int := if p.2.1 = i ∧ p.2.2.2.2.1 = 3 then p.2.2.2.1 else 0
theorem zY6 {n : Nat} {p : zB} (h : yN n p) (i : Nat) : 0 ≤ gN i p ∧ gN i p ≤ 1099511627776 := by
 have h1 := h.a1; have h2 := h.a2
 unfold gN
 by_cases e : p.2.1 = i ∧ p.2.2.2.2.1 = 3
 ·rw [if_pos e]; omega
 ·rw [if_neg e]; omega
theorem yTx {n : Nat} {l : List zB} (h : vR n l) (i : Nat) : 0 ≤ zS (gN i) l ∧ zS (gN i) l ≤ 70368744177664 := by
 have h1 := zM0 (g := gN i) (A := 1099511627776) fun p hp => by have := zY6 (h.1 p hp) i; omega
 have h0 := zGf (g := gN i) fun p hp => (zY6 (h.1 p hp) i).1
 have h2 := h.2
 have h3 : (l.length : Int) * 1099511627776 ≤ 70368744177664 := by omega
 omega
theorem yVt {k n : Nat} {l : List zB} (hk : l.length < k) (hl : vR n l) (i : Nat) : qLc k l i = some (zS (gN i) l, zS (gR i) l) := by
 have hl64 := hl.2
 obtain ⟨s, h1, h2⟩ := wZ (L := fun c x (s : Int × Int) => qHz k c l i s.1 s.2 x) (N := l.length) (fun s => s) (fun x s => s = (zS (gN i) (l.take x), zS (gR i) (l.take x))) (fun c s hs => by
   show zQx k _ l i s.1 s.2 l.length = _
   unfold zQx
   simp only [qB, vH9 (Nat.lt_irrefl _), vIf]) (fun c x s hx hs => by
   refine ⟨(zS (gN i) (l.take (x + 1)), zS (gR i) (l.take (x + 1))), ?_, rfl⟩
   show zQx k _ l i s.1 s.2 x = _
   have hb := yTx (hl.take x) i
   have hb' := zKh (hl.take x) i
   have hm : yN n (l.getD x pd) := hl.1 _ (zAa hx)
   have e : zS (gN i) (l.take (x + 1)) = s.1 + gN i (l.getD x pd) := by
    rw [← zAp l x pd hx, zBt, hs]
    show _ + (_ + 0) = _
    omega
   have e' : zS (gR i) (l.take (x + 1)) = s.2 + gR i (l.getD x pd) := by
    rw [← zAp l x pd hx, zBt, hs]
    show _ + (_ + 0) = _
    omega
   have w := yH (x := s.1 + (l.getD x pd).2.2.2.1) (by have := hm.a1; rw [hs]; dsimp only; omega) (by have := hm.a2; rw [hs]; dsimp only; omega)
   have w' := yH (x := s.2 + (l.getD x pd).2.2.2.1) (by have := hm.a1; rw [hs]; dsimp only; omega) (by have := hm.a2; rw [hs]; dsimp only; omega)
   unfold zQx
   simp only [qT, qX hx (show l.length < 9223372036854775808 by omega), qB, vIg, vH8 hx, vIe]
   rw [e, e']
   unfold gN gR
   by_cases c1 : (l.getD x pd).2.1 = (i : Int)
   ·rw [vH8 c1]
    by_cases c2 : (l.getD x pd).2.2.2.2.1 = 3
    ·rw [vH8 c2, if_pos ⟨c1, c2⟩, if_neg (fun e => e.2 c2), w, Int.add_zero]; rfl
    ·rw [vH9 c2, if_neg (fun e => c2 e.2), if_pos ⟨c1, c2⟩, w', Int.add_zero]; rfl
   ·rw [vH9 c1, if_neg (fun e => c1 e.1), if_neg (fun e => c1 e.1), Int.add_zero, Int.add_zero]; rfl) (s := (0, 0)) hk rfl
 unfold qLc
 rw [h1]
 rw [List.take_of_length_le (Nat.le_refl _)] at h2
 rw [h2]
 rfl
theorem vE0 {k n : Nat} {l : List zB} (hk : l.length < k) (hl : vR n l) (i : Nat) : qEd k l i = some (zS (gR i) l) := by
 unfold qEd
 rw [yVt hk hl i]
 rfl
theorem yQ6 (k : Nat) (b c r s : Int) (h : -9223372036854775808 ≤ r - s) (h' : r < 9223372036854775808) (hs : 0 ≤ s) : qG2 k b c r s = some (vU r s) := by
 unfold qG2 vU
 by_cases e : s ≥ r
 ·rw [vH8 e, if_pos e]; rfl
 ·rw [vH9 e, if_neg e, yH h (by omega)]; rfl
theorem yHa {n : Nat} {l : List zB} (hl : ∀ p ∈ l, yN n p) (i : Nat) (hi : i < n) : qL (fun j => zS (gS i j) l - zS (gS j i) l) n = - zS (gB i) l := by
 have e1 : qL (fun j => zS (gS i j) l - zS (gS j i) l) n = qL (fun j => zS (fun p => gS i j p - gS j i p) l) n := zB8 fun j _ => (qHe _ _ l).symm
 rw [e1, zW7 (fun j p => gS i j p - gS j i p)]
 have e2 : ∀ p ∈ l, qL (fun j => gS i j p - gS j i p) n = 0 - gB i p := by
  intro p hp
  obtain ⟨f0, f1, t0, t1, ne, a1, a2, c1, c3⟩ := hl p hp
  obtain ⟨f, hf⟩ : ∃ f : Nat, p.2.1 = f := ⟨p.2.1.toNat, by omega⟩
  obtain ⟨t, ht⟩ : ∃ t : Nat, p.2.2.1 = t := ⟨p.2.2.1.toNat, by omega⟩
  have g1 : ∀ j, gS i j p - gS j i p = (if j = t then (if f = i then p.2.2.2.1 else 0) else 0) + (if j = f then (if t = i then -p.2.2.2.1 else 0) else 0) := by
   intro j
   unfold gS
   rw [hf, ht]
   by_cases a : f = i <;> by_cases b : t = i <;> by_cases c : j = t <;> by_cases d : j = f <;> (repeat (first | rw [if_pos (by omega)] | rw [if_neg (by omega)])) <;> omega
  rw [zB8 fun j _ => g1 j, zLx, zH9, zH9]
  unfold gB
  rw [hf, ht]
  by_cases a : f = i <;> by_cases b : t = i <;> (repeat (first | rw [if_pos (by omega)] | rw [if_neg (by omega)])) <;> omega
 rw [zV3 e2, qHe]
 have : zS (fun _ : zB => (0 : Int)) l = 0 := by
  clear e1 e2 hl
  induction l with
  | nil => rfl
  | cons p l ih => show 0 + zS _ l = 0; rw [ih]; rfl
 rw [this]; omega
structure yVb (n : Nat) (a : List qK) (p : List (List Int)) (l : List zB) (i : Nat) (a' : List qK) (p' : List (List Int)) : Prop where
 al : a'.length = n
 done : ∀ x, x < n → x < i → a'.getD x ad = ((a.getD x ad).1 + zS (gB x) l, (a.getD x ad).2.1, vU (a.getD x ad).2.2 (zS (gR x) l))
 rest : ∀ x, x < n → ¬ x < i → a'.getD x ad = a.getD x ad
 pl : p'.length = n
 pr : ∀ x, x < n → (p'.getD x []).length = n
 cell : ∀ x, x < n → ∀ y, y < n → cell p' x y = if x < i then cell p x y + zS (gS x y) l - zS (gS y x) l else cell p x y
structure qMz (n : Nat) (a : List qK) (p : List (List Int)) (l : List zB) (i j : Nat) (a' : List qK) (p' : List (List Int)) : Prop where
 al : a'.length = n
 done : ∀ x, x < n → x < i → a'.getD x ad = ((a.getD x ad).1 + zS (gB x) l, (a.getD x ad).2.1, vU (a.getD x ad).2.2 (zS (gR x) l))
 here : a'.getD i ad = ((a.getD i ad).1 - qL (fun j => zS (gS i j) l - zS (gS j i) l) j, (a.getD i ad).2.1, vU (a.getD i ad).2.2 (zS (gR i) l))
 rest : ∀ x, x < n → i < x → a'.getD x ad = a.getD x ad
 pl : p'.length = n
 pr : ∀ x, x < n → (p'.getD x []).length = n
 cell : ∀ x, x < n → ∀ y, y < n → cell p' x y = if x < i ∨ (x = i ∧ y < j) then cell p x y + zS (gS x y) l - zS (gS y x) l else cell p x y
theorem vGf {k n : Nat} {a : List qK} {p : List (List Int)} {l : List zB} (hk : n < k) (hkl : l.length < k) (hn : n ≤ 1000) (hx : zV7 n a p) (hl : vR n l) {i : Nat} (hi : i < n) (b0 : List qK) (b1 : List (List Int)) (b2 : List Int) (b3 : List (List Int)) (b : List (List Int)) (m : List Int)
  {a0 : List qK} {p0 : List (List Int)} (h0 : qMz n a p l i 0 a0 p0) : ∃ a' p', zXk k k l i 0 b0 b1 b2 b3 a0 b m p0 = some (l, (i : Int), b0, b1, b2, b3, a', b, m, p') ∧ qMz n a p l i n a' p' := by
 obtain ⟨s, h1, h2⟩ := wZ (L := fun c j (s : List qK × List (List Int)) => zXk k c l i j b0 b1 b2 b3 s.1 b m s.2) (N := n) (fun s => (l, (i : Int), b0, b1, b2, b3, s.1, b, m, s.2)) (fun j s => qMz n a p l i j s.1 s.2) (fun c s hs => by
   show zQ3 k _ l i n b0 b1 b2 b3 s.1 b m s.2 = _
   unfold zQ3
   simp only [qB, hs.al, vH9 (Nat.lt_irrefl _), vIf]) (fun c j s hj hs => by
   refine ⟨(s.1.set i (zC ((s.1.getD i ad).1 - (zS (gS i j) l - zS (gS j i) l)), (s.1.getD i ad).2), s.2.set i ((s.2.getD i []).set j (zC ((s.2.getD i []).getD j 0 + (zS (gS i j) l - zS (gS j i) l))))), ?_, ?_⟩
   ·show zQ3 k _ l i j b0 b1 b2 b3 s.1 b m s.2 = _
    unfold zQ3
    simp only [qT, qX hj (show n < 9223372036854775808 by omega), qB, vIg, hs.al, hs.pl, hs.pr i hi, vH8 hi, vH8 hj, vIe, vHc hkl hl, vId]
   ·have hb := hx.bal i hi
    have hg : ∀ j, -70368744177664 ≤ zS (gS i j) l - zS (gS j i) l ∧ zS (gS i j) l - zS (gS j i) l ≤ 70368744177664 := fun j => by
     have h1 := zE3 hl i j
     have h2 := zE3 hl j i
     omega
    have hs1 := zQ9 hg j
    have hs2 := hg j
    have hj1 : (j : Int) * 70368744177664 ≤ 1000 * 70368744177664 := by omega
    have hnet := hx.net i hi j hj
    have hc := hs.cell i hi j hj
    rw [if_neg (by omega)] at hc
    refine ⟨by simp only [List.length_set]; exact hs.al, fun x hxn hxi => ?_, ?_, fun x hxn hxi => ?_, by simp only [List.length_set]; exact hs.pl, zOa hs.pl hs.pr hi, fun x hxn y hyn => ?_⟩
    ·rw [vW, if_neg (fun e => by omega)]
     exact hs.done x hxn hxi
    ·rw [vW, if_pos ⟨rfl, by rw [hs.al]; exact hi⟩, hs.here]
     dsimp only
     rw [yH (by omega) (by omega)]
     show (_, _) = ((a.getD i ad).1 - (qL _ j + _), _)
     rw [Int.sub_sub]
    ·rw [vW, if_neg (fun e => by omega)]
     exact hs.rest x hxn hxi
    ·have e : (s.2.getD i []).getD j 0 = cell p i j := hc
     rw [qJk (by rw [hs.pl]; exact hi) (by rw [hs.pr i hi]; exact hj), e]
     by_cases hxy : x = i ∧ y = j
     ·obtain ⟨rfl, rfl⟩ := hxy
      rw [if_pos ⟨rfl, rfl⟩, if_pos (by omega), yH (by omega) (by omega)]
      omega
     ·rw [if_neg hxy, hs.cell x hxn y hyn]
      by_cases h : x < i ∨ (x = i ∧ y < j)
      ·rw [if_pos h, if_pos (by omega)]
      ·rw [if_neg h, if_neg (by omega)]) (s := (a0, p0)) hk h0
 exact ⟨s.1, s.2, h1, h2⟩
theorem vBc {k n : Nat} {a : List qK} {b : List (List Int)} {m : List Int} {p : List (List Int)} {l : List zB} (hk : n < k) (hkl : l.length < k) (hn : n ≤ 1000) (hx : zV7 n a p) (hl : vR n l) (b0 : List qK) (b1 : List (List Int)) (b2 : List Int) (b3 : List (List Int)) :
  ∃ a' p', zUc k k l 0 b0 b1 b2 b3 a b m p = some (b0, b1, b2, b3, a', b, m, p') ∧ zFf n a p l a' p' := by
 obtain ⟨s, h1, h2⟩ := wZ (L := fun c i (s : List qK × List (List Int)) => zUc k c l i b0 b1 b2 b3 s.1 b m s.2) (N := n) (fun s => (b0, b1, b2, b3, s.1, b, m, s.2)) (fun i s => yVb n a p l i s.1 s.2) (fun c s hs => by
   show zRh k _ l n b0 b1 b2 b3 s.1 b m s.2 = _
   unfold zRh
   simp only [qB, hs.al, vH9 (Nat.lt_irrefl _), vIf]) (fun c i s hi hs => by
   have hai := hs.rest i hi (Nat.lt_irrefl i)
   have hr := hx.res i hi
   have hsp := zKh hl i
   obtain ⟨a', p', h1, h2⟩ := vGf (a0 := s.1.set i ((s.1.getD i ad).1, ((s.1.getD i ad).2.1, vU (s.1.getD i ad).2.2 (zS (gR i) l)))) (p0 := s.2) hk hkl hn hx hl hi b0 b1 b2 b3 b m ⟨by rw [List.length_set]; exact hs.al, fun x hxn hxi => by
     rw [vW, if_neg (fun e => by omega)]; exact hs.done x hxn hxi, by
     rw [vW, if_pos ⟨rfl, by rw [hs.al]; exact hi⟩, hai]
     show _ = ((a.getD i ad).1 - 0, _, _)
     rw [Int.sub_zero], fun x hxn hxi => by
     rw [vW, if_neg (fun e => by omega)]; exact hs.rest x hxn (by omega), hs.pl, hs.pr, fun x hxn y hyn => by
     rw [hs.cell x hxn y hyn]
     by_cases h : x < i
     ·rw [if_pos h, if_pos (.inl h)]
     ·rw [if_neg h, if_neg (by omega)]⟩
   refine ⟨(a', p'), ?_, ?_⟩
   ·show zRh k _ l i b0 b1 b2 b3 s.1 b m s.2 = _
    unfold zRh
    have hK := yQ6 k (s.1.getD i ad).1 (s.1.getD i ad).2.1 (s.1.getD i ad).2.2 (zS (gR i) l) (by rw [hai]; omega) (by rw [hai]; omega) hsp.1
    simp only [qT, qB, vIg, hs.al, vH8 hi, vIe, vE0 hkl hl, vId]
    rw [hK]
    simp only [vId]
    rw [h1]
    simp only [vId, qX hi (show n < 9223372036854775808 by omega)]
   ·refine ⟨h2.al, fun x hxn hxi => ?_, fun x hxn hxi => h2.rest x hxn (by omega), h2.pl, h2.pr, fun x hxn y hyn => ?_⟩
    ·by_cases h : x < i
     ·exact h2.done x hxn h
     ·have : x = i := by omega
      subst this
      rw [h2.here, yHa hl.1 x hxn]
      rw [Int.sub_neg]
    ·rw [h2.cell x hxn y hyn]
     by_cases h : x < i + 1
     ·rw [if_pos (by omega), if_pos h]
     ·rw [if_neg (by omega), if_neg h]) (s := (a, p)) hk ⟨hx.al, fun x _ h => absurd h (Nat.not_lt_zero x), fun x _ _ => rfl, hx.pl, hx.pr, fun x _ y _ => by rw [if_neg (Nat.not_lt_zero x)]⟩
 exact ⟨s.1, s.2, h1, h2.al, fun i hi => h2.done i hi hi, h2.pl, h2.pr, fun i hi j hj => by rw [h2.cell i hi j hj, if_pos hi]⟩
def zEl (a : List qK) (b : List (List Int)) (m : List Int) (p : List (List Int)) (l : List zB) (r : List qK × List (List Int) × List Int × List (List Int) × Int) : Prop :=
 (vR a.length l → ∃ a' p', zFf a.length a p l a' p' ∧ r = (bif isB a' b m p' then (a', b, m, p', 0) else (a, b, m, p, 8))) ∧ (¬ vR a.length l → r = (a, b, m, p, 1))
theorem zXg {k : Nat} (hk : 100 < k) {a : List qK} {b : List (List Int)} {m : List Int} {p : List (List Int)} {l : List zB} (h : wP a b m p) (hl : l.length ≤ 80) : ∃ r, zDm k a b m p l = some r ∧ zEl a b m p l r := by
 unfold zDm zEl
 have e : decide (((l.length : Nat) : Int) > 64) = decide (¬ l.length ≤ 64) := by
  by_cases h : l.length ≤ 64
  ·rw [vH9 (by omega), vH9 (by omega)]
  ·rw [vH8 (by omega), vH8 (by omega)]
 rw [e]
 by_cases h64 : l.length ≤ 64
 case neg =>
  rw [vH8 h64]
  exact ⟨_, rfl, fun e => absurd e.2 h64, fun _ => rfl⟩
 rw [vH9 (by omega), vFy (by omega) (by omega)]
 simp only [vIf, vId]
 cases hm : zC3 a.length l with
 | false =>
  refine ⟨_, rfl, fun e => ?_, fun _ => rfl⟩
  rw [zJr.2 e.1] at hm
  cases hm
 | true =>
  have hrow : vR a.length l := ⟨zJr.1 hm, h64⟩
  simp only [vIi, vIf, zQ6 (show 10 < k by omega) h.toSized, vId]
  obtain ⟨a', p', h1, h2⟩ := yP4 (b := b) (m := m) (show l.length < k by omega) h.nums hrow a b m p
  rw [h1]
  simp only [vId, yWm (show 10 < k by omega)]
  cases hB : isB a' b m p' with
  | true => exact ⟨_, rfl, fun _ => ⟨a', p', h2, by rw [hB]; rfl⟩, fun e => absurd hrow e⟩
  | false => exact ⟨_, rfl, fun _ => ⟨a', p', h2, by rw [hB]; rfl⟩, fun e => absurd hrow e⟩
theorem yPf {k : Nat} (hk : 100 < k) {a : List qK} {b : List (List Int)} {m : List Int} {p : List (List Int)} {l : List zB} (h : wP a b m p) (hl : l.length ≤ 80) : ∃ r, qNw k a b m p l = some r ∧ zEl a b m p l r := by
 unfold qNw zEl
 rw [yTv (by omega) (by omega)]
 simp only [vId]
 cases hm : zC3 a.length l with
 | false =>
  refine ⟨_, rfl, fun e => ?_, fun _ => rfl⟩
  rw [zJr.2 e.1] at hm
  cases hm
 | true =>
  by_cases h64 : l.length ≤ 64
  case neg =>
   rw [vH9 h64]
   exact ⟨_, rfl, fun e => absurd e.2 h64, fun _ => rfl⟩
  have hrow : vR a.length l := ⟨zJr.1 hm, h64⟩
  have h6 := h.n6
  rw [vH8 h64]
  simp only [Bool.and_true, vIi, vIf, yXr (show 10 < k by omega) h.toSized, vId]
  obtain ⟨a', p', h1, h2⟩ := vBc (b := b) (m := m) (show a.length < k by omega) (show l.length < k by omega) (by omega) h.nums hrow a b m p
  rw [h1]
  simp only [vId, yWv (show 10 < k by omega)]
  cases hB : isB a' b m p' with
  | true => exact ⟨_, rfl, fun _ => ⟨a', p', h2, by rw [hB]; rfl⟩, fun e => absurd hrow e⟩
  | false => exact ⟨_, rfl, fun _ => ⟨a', p', h2, by rw [hB]; rfl⟩, fun e => absurd hrow e⟩
theorem zEl.same {a : List qK} {b : List (List Int)} {m : List Int} {p : List (List Int)} {l : List zB} {r r' : List qK × List (List Int) × List Int × List (List Int) × Int} (h : zEl a b m p l r) (h' : zEl a b m p l r') : r = r' := by
 by_cases c : vR a.length l
 ·obtain ⟨a1, p1, x, rfl⟩ := h.1 c
  obtain ⟨a2, p2, y, rfl⟩ := h'.1 c
  obtain ⟨rfl, rfl⟩ := x.same y
  rfl
 ·rw [h.2 c, h'.2 c]
theorem zOq {a : List qK} {b : List (List Int)} {m : List Int} {p : List (List Int)} {l : List zB} {r : List qK × List (List Int) × List Int × List (List Int) × Int} (hb : wP a b m p) (h : zEl a b m p l r) :
  qL (fun i => (r.1.getD i ad).1) a.length = qL (fun i => (a.getD i ad).1) a.length ∧ wP r.1 r.2.1 r.2.2.1 r.2.2.2.1 ∧ (r.2.2.2.2 = 0 ∨ (r.1 = a ∧ r.2.1 = b ∧ r.2.2.1 = m ∧ r.2.2.2.1 = p)) := by
 by_cases c : vR a.length l
 ·obtain ⟨a', p', x, e⟩ := h.1 c
  cases hi : isB a' b m p' with
  | false =>
   rw [hi] at e
   subst e
   exact ⟨rfl, hb, .inr ⟨rfl, rfl, rfl, rfl⟩⟩
  | true =>
   rw [hi] at e
   subst e
   refine ⟨?_, qJh.1 hi, .inl rfl⟩
   have e1 : qL (fun i => (a'.getD i ad).1) a.length = qL (fun i => (a.getD i ad).1 + zS (gB i) l) a.length := zB8 fun j hj => by rw [x.acct j hj]
   show qL (fun i => (a'.getD i ad).1) a.length = _
   rw [e1, zLx, zW7]
   have e2 : zS (fun p => qL (fun j => gB j p) a.length) l = zS (fun _ => (0 : Int)) l := zV3 fun p hp => by
    obtain ⟨f0, f1, t0, t1, ne, a1, a2, c1, c3⟩ := c.1 p hp
    obtain ⟨f, hf⟩ : ∃ f : Nat, p.2.1 = f := ⟨p.2.1.toNat, by omega⟩
    obtain ⟨t, ht⟩ : ∃ t : Nat, p.2.2.1 = t := ⟨p.2.2.1.toNat, by omega⟩
    have g1 : ∀ j, gB j p = (if j = t then p.2.2.2.1 else 0) + (if j = f then -p.2.2.2.1 else 0) := by
     intro j
     unfold gB
     rw [hf, ht]
     by_cases c : j = t <;> by_cases d : j = f <;> (repeat (first | rw [if_pos (by omega)] | rw [if_neg (by omega)])) <;> omega
    rw [zB8 fun j _ => g1 j, zLx, zH9, zH9, if_pos (by omega), if_pos (by omega)]
    omega
   have e3 : ∀ l : List zB, zS (fun _ : zB => (0 : Int)) l = 0 := by
    intro l
    induction l with
    | nil => rfl
    | cons p l ih => show 0 + zS _ l = 0; rw [ih]; rfl
   rw [e2, e3, Int.add_zero]
 ·have e := h.2 c
  subst e
  exact ⟨rfl, hb, .inr ⟨rfl, rfl, rfl, rfl⟩⟩
theorem qY9 {a : List qK} {b : List (List Int)} {m : List Int} {p : List (List Int)} (hb : wP a b m p) {i : Nat} (hi : i < a.length) (j : Nat) : -72057594037927936 ≤ cell p i j ∧ cell p i j ≤ 72057594037927936 := by
 by_cases hj : j < a.length
 ·have := hb.net i hi j hj
  simp only [zAf, vIh, vIc] at this
  omega
 ·have : cell p i j = 0 := by
   unfold cell
   rw [List.getD_eq_getElem?_getD, List.getElem?_eq_none]
   ·rfl
   ·rw [hb.pr i hi]; omega
  omega
theorem qXz {S X : Type} {L : Nat → Int → S → Option X} {N : Nat} (ok : Nat → Bool) (e : S → X) (b : X) (inv : Nat → S → Prop) (hend : ∀ n s, inv N s → L (n + 1) (N : Int) s = some (e s))
  (hstep : ∀ n i s, i < N → inv i s → (ok i = true → ∃ s', L (n + 1) (i : Int) s = L n ((i + 1 : Nat) : Int) s' ∧ inv (i + 1) s') ∧ (ok i = false → L (n + 1) (i : Int) s = some b)) :
  ∀ c i n s, i + c = N → c < n → inv i s → (qH ok c i = true ∧ ∃ s', L n (i : Int) s = some (e s') ∧ inv N s') ∨ (qH ok c i = false ∧ L n (i : Int) s = some b)
 | 0, i, n, s, h, hn, hs => by
  obtain ⟨n, rfl⟩ : ∃ m, n = m + 1 := ⟨n - 1, by omega⟩
  have : i = N := by omega
  subst this
  exact .inl ⟨rfl, s, hend n s hs, hs⟩
 | c + 1, i, n, s, h, hn, hs => by
  obtain ⟨n, rfl⟩ : ∃ m, n = m + 1 := ⟨n - 1, by omega⟩
  obtain ⟨h1, h2⟩ := hstep n i s (by omega) hs
  unfold qH
  cases ho : ok i with
  | true =>
   obtain ⟨s', h3, h4⟩ := h1 ho
   rw [h3]
   simp only [Bool.true_and]
   exact qXz ok e b inv hend hstep c (i + 1) n s' (by omega) (by omega) h4
  | false => exact .inr ⟨rfl, h2 ho⟩
def dS (l : List zB) (i j : Nat) : Int := zS (gS i j) l - zS (gS j i) l
def zRu (b p : List (List Int)) (l : List zB) (i j : Nat) : Bool := !(decide (zS (gS i j) l > 0) && (!decide (cell b i j = -1) && decide (cell p i j + dS l i j > cell b i j)))
def zAx (a : List qK) (b : List (List Int)) (m : List Int) (p : List (List Int)) (l : List zB) (i : Nat) : Bool :=
 !decide (zS (gN i) l + zS (gR i) l = 0) && (!qH (zRu b p l i) a.length 0 || (decide ((a.getD i ad).1 + (a.getD i ad).2.1 + zS (gB i) l < 0) ||
  ((decide (zS (gN i) l > 0) && decide ((a.getD i ad).1 + (a.getD i ad).2.1 + zS (gB i) l < vU (a.getD i ad).2.2 (zS (gR i) l))) ||
   (!decide (m.getD i 0 = -1) && decide (qL (cell p i) a.length - zS (gB i) l > m.getD i 0)))))
theorem zY7 {n : Nat} {l : List zB} (hl : vR n l) (i j : Nat) : -70368744177664 ≤ dS l i j ∧ dS l i j ≤ 70368744177664 := by
 have h1 := zE3 hl i j
 have h2 := zE3 hl j i
 unfold dS
 omega
theorem yOn {n : Nat} {l : List zB} (hl : ∀ p ∈ l, yN n p) (i : Nat) (hi : i < n) : qL (dS l i) n = - zS (gB i) l := yHa hl i hi
def zL0 (a : List qK) (b : List (List Int)) (m : List Int) (p : List (List Int)) (l : List zB) : Bool := (zC3 a.length l && decide (l.length ≤ 64)) && qH (fun i => !zAx a b m p l i) a.length 0
theorem vGg {k n i : Nat} {p : List (List Int)} (hk : n < k) (hn : n ≤ 100) (hi : i < n) (hp : p.length = n) (hr : (p.getD i []).length = n) (hb : ∀ j, -72057594037927936 ≤ cell p i j ∧ cell p i j ≤ 72057594037927936) (a : List qK) (b : List (List Int)) (m : List Int) :
  zTx k a b m p i = some (qL (cell p i) n) := by
 obtain ⟨s, h1, h2⟩ := wZ (L := fun c j (s : Int) => zLt k c s (p.getD i []) n j) (N := n) (fun s => s) (fun j s => s = qL (cell p i) j) (fun c s hs => by
   show zLd k _ s (p.getD i []) n n = _
   unfold zLd
   simp only [qB, vH9 (Nat.lt_irrefl _), vIf]) (fun c j s hj hs => by
   refine ⟨qL (cell p i) (j + 1), ?_, rfl⟩
   show zLd k _ s (p.getD i []) n j = _
   have h1 := zQ9 hb j
   have h2 := hb j
   have h3 : (j : Int) * 72057594037927936 ≤ 100 * 72057594037927936 := by omega
   unfold zLd
   simp only [qT, qX hj (show n < 9223372036854775808 by omega), qB, vIg, hr, vH8 hj, vIe]
   show zLt k c (zC (s + cell p i j)) _ _ _ = _
   rw [hs, yH (by omega) (by omega)]
   rfl) (s := 0) hk rfl
 unfold zTx
 simp only [qT, hp, vH8 hi, vIe, vIg, hr]
 rw [h1, h2]
 rfl
theorem yFn (k : Nat) {n : Nat} (hn : n ≤ 6) : zQg k n = some true := by
 unfold zQg
 rw [vH8 (by omega), vH8 (by omega)]; rfl
theorem yFy {α : Type} (v z : α) (n i : Nat) (hi : i < n) : (List.replicate i v ++ List.replicate (n - i) z).set i v = List.replicate (i + 1) v ++ List.replicate (n - (i + 1)) z := by
 have e : List.replicate (n - i) z = z :: List.replicate (n - (i + 1)) z := by
  rw [show n - i = (n - (i + 1)) + 1 by omega]; rfl
 rw [List.set_append_right _ _ (by simp), List.length_replicate, Nat.sub_self, e]
 simp [List.replicate_succ']
theorem yId {n b : Nat} (hn : n ≤ 1000) (hb : b ≤ 1000) : zHb (n : Int) (n : Int) b = true := by
 unfold zHb
 have h : (n : Int) * (b : Int) ≤ 1000000 := by
  have : n * b ≤ 1000 * 1000 := Nat.mul_le_mul hn hb
  have e : ((n * b : Nat) : Int) = (n : Int) * (b : Int) := by simp
  omega
 simp only [vIh, vIc]
 omega
theorem qT3 {k n : Nat} (hk : n < k) (hn : n ≤ 6) (v : Int) : zH6 k n v = some (List.replicate n v) := by
 unfold zH6
 rw [yFn k hn]
 obtain ⟨s, h1, h2⟩ := wZ (L := fun c i (s : List Int) => zN5 k c v n i s) (N := n) (fun s => s) (fun i s => s = List.replicate i v ++ List.replicate (n - i) 0) (fun c s hs => by
   show zJj k _ v n n s = _
   unfold zJj
   simp only [qB, vH9 (Nat.lt_irrefl _), vIf]) (fun c i s hi hs => by
   refine ⟨_, ?_, rfl⟩
   show zJj k _ v n i s = _
   have hl : s.length = n := by rw [hs]; simp; omega
   unfold zJj
   simp only [qT, qX hi (show n < 9223372036854775808 by omega), qB, vIg, vH8 hi, vIe, hl]
   rw [hs, yFy v 0 n i hi]) (s := List.replicate n 0) hk (by simp)
 simp only [vId, vIi, vIf, yId (n := n) (b := 8) (by omega) (by omega), vIe, vIg, List.length_replicate]
 rw [h1, h2]
 simp
theorem vCe {k n : Nat} (hk : n < k) (hn : n ≤ 6) (v : Int) : zJ1 k n v = some (List.replicate n (List.replicate n v)) := by
 unfold zJ1
 rw [yFn k hn]
 obtain ⟨s, h1, h2⟩ := wZ (L := fun c i (s : List (List Int)) => zRr k c n v n i s) (N := n) (fun s => s) (fun i s => s = List.replicate i (List.replicate n v) ++ List.replicate (n - i) []) (fun c s hs => by
   show zMg k _ n v n n s = _
   unfold zMg
   simp only [qB, vH9 (Nat.lt_irrefl _), vIf]) (fun c i s hi hs => by
   refine ⟨_, ?_, rfl⟩
   show zMg k _ n v n i s = _
   have hl : s.length = n := by rw [hs]; simp; omega
   unfold zMg
   simp only [qT, qX hi (show n < 9223372036854775808 by omega), qB, vIg, vH8 hi, vIe, hl, qT3 hk hn, vId]
   rw [hs, yFy (List.replicate n v) [] n i hi]) (s := List.replicate n []) hk (by simp)
 simp only [vId, vIi, vIf, yId (n := n) (b := 24) (by omega) (by omega), vIe, vIg, List.length_replicate]
 rw [h1, h2]
 simp
def zIc (a : List qK) (b : List (List Int)) (m : List Int) (p : List (List Int)) (l : List zB) : List Int := ((List.range a.length).filter fun i => zAx a b m p l i).map fun (i : Nat) => (i : Int)
structure zXb (n : Nat) (l : List zB) (r2 r3 : List Int) (m4 : List (List Int)) : Prop where
 l2 : r2.length = n
 l3 : r3.length = n
 l4 : m4.length = n
 r4 : ∀ i, i < n → (m4.getD i []).length = n
 more : ∀ i, i < n → r2.getD i 0 = zS (gB i) l
 spent : ∀ i, i < n → r3.getD i 0 = zS (gR i) l
 sent : ∀ i, i < n → ∀ j, j < n → cell m4 i j = dS l i j
def zOo (p : zB) (r : List Int) : List Int :=
 let y0 := r.set p.2.1.toNat (zC (r.getD p.2.1.toNat 0 - p.2.2.2.1))
 y0.set p.2.2.1.toNat (zC (y0.getD p.2.2.1.toNat 0 + p.2.2.2.1))
def zP7 (p : zB) (r : List Int) : List Int := bif !decide (p.2.2.2.2.1 = 3) then r.set p.2.1.toNat (zC (r.getD p.2.1.toNat 0 + p.2.2.2.1)) else r
theorem vFd {n : Nat} {p : zB} (h : yN n p) {r : List Int} (hr : r.length = n) {i : Nat} (hi : i < n) (hb : ∀ i, i < n → -4611826755915743232 < r.getD i 0 ∧ r.getD i 0 < 4611826755915743232) : (zOo p r).getD i 0 = r.getD i 0 + gB i p := by
 obtain ⟨f0, f1, t0, t1, ne, a1, a2, c1, c3⟩ := h
 obtain ⟨f, hf⟩ : ∃ f : Nat, p.2.1 = f := ⟨p.2.1.toNat, by omega⟩
 obtain ⟨t, ht⟩ : ∃ t : Nat, p.2.2.1 = t := ⟨p.2.2.1.toNat, by omega⟩
 have hft : f ≠ t := by omega
 have hfn : f < n := by omega
 have htn : t < n := by omega
 unfold zOo gB
 simp only [hf, ht, vIg]
 have b1 := hb f hfn
 have b2 := hb t htn
 have key : ∀ x, (r.set f (zC (r.getD f 0 - p.2.2.2.1))).getD x 0 = if f = x then zC (r.getD f 0 - p.2.2.2.1) else r.getD x 0 := fun x => by
  rw [vW]
  by_cases e : f = x
  ·rw [if_pos ⟨e, by omega⟩, if_pos e]
  ·rw [if_neg (fun h => e h.1), if_neg e]
 rw [vW, List.length_set, key t, if_neg hft, key i]
 by_cases h1 : t = i
 ·subst h1
  rw [if_pos ⟨rfl, by omega⟩, if_pos rfl, if_neg (by omega), yH (by omega) (by omega)]
  omega
 ·rw [if_neg (fun e => h1 e.1), if_neg (c := ((t : Int) = i)) (by omega)]
  by_cases h2 : f = i
  ·subst h2
   rw [if_pos rfl, if_pos rfl, yH (by omega) (by omega)]
   omega
  ·rw [if_neg h2, if_neg (by omega)]
   omega
theorem vHb {n : Nat} {p : zB} (h : yN n p) {r : List Int} (hr : r.length = n) {i : Nat} (hi : i < n) (hb : ∀ i, i < n → -4611826755915743232 < r.getD i 0 ∧ r.getD i 0 < 4611826755915743232) : (zP7 p r).getD i 0 = r.getD i 0 + gR i p := by
 obtain ⟨f0, f1, t0, t1, ne, a1, a2, c1, c3⟩ := h
 obtain ⟨f, hf⟩ : ∃ f : Nat, p.2.1 = f := ⟨p.2.1.toNat, by omega⟩
 have hfn : f < n := by omega
 have b1 := hb f hfn
 unfold zP7 gR
 simp only [hf, vIg]
 by_cases hc : p.2.2.2.2.1 = 3
 ·rw [vH8 hc, if_neg (fun e => e.2 hc)]
  simp
 ·rw [vH9 hc]
  simp only [vIj, vIe]
  rw [vW]
  by_cases h2 : f = i
  ·subst h2
   rw [if_pos ⟨rfl, by omega⟩, if_pos ⟨rfl, hc⟩, yH (by omega) (by omega)]
  ·rw [if_neg (fun e => h2 e.1), if_neg (fun e => h2 (by omega))]
   omega
theorem yW8 (l : List zB) (p : zB) (i j : Nat) : dS (l ++ [p]) i j = dS l i j + gS i j p - gS j i p := by
 unfold dS
 rw [zBt, zBt]
 dsimp only [zS]
 omega
theorem zNz {α : Type} (n i : Nat) (v d : α) (h : i < n) : (List.replicate n v).getD i d = v := by
 simp [List.getD, h]
theorem vG8 {k n : Nat} {l : List zB} (hk : 100 < k) (hn : n ≤ 6) (hl : vR n l) : ∃ r2 r3 m4, zSu k n l = some (r2, r3, m4) ∧ zXb n l r2 r3 m4 := by
 have hl64 := hl.2
 have := wZ (L := fun c i (s : List Int × List Int × List (List Int)) => zJs k c l l.length i s.1 s.2.1 s.2.2) (N := l.length) (fun s => s) (fun i s => zXb n (l.take i) s.1 s.2.1 s.2.2) (fun c s hs => by
   show zNk k _ l l.length l.length s.1 s.2.1 s.2.2 = _
   unfold zNk
   simp only [qB, vH9 (Nat.lt_irrefl _), vIf]) (fun c i s hi hs => by
   have hmay : yN n (l.getD i pd) := hl.1 _ (zAa hi)
   refine ⟨(zOo (l.getD i pd) s.1, zP7 (l.getD i pd) s.2.1, zGr (l.getD i pd) s.2.2), ?_, ?_⟩
   ·show zNk k _ l l.length i s.1 s.2.1 s.2.2 = _
    unfold zNk zOo zP7 zGr
    simp only [qT, qX hi (show l.length < 9223372036854775808 by omega), qB, vIg, vH8 hi, vIe]
    obtain ⟨f0, f1, t0, t1, ne, a1, a2, c1, c3⟩ := hmay
    obtain ⟨f, hf⟩ : ∃ f : Nat, (l.getD i pd).2.1 = f := ⟨(l.getD i pd).2.1.toNat, by omega⟩
    obtain ⟨t, ht⟩ : ∃ t : Nat, (l.getD i pd).2.2.1 = t := ⟨(l.getD i pd).2.2.1.toNat, by omega⟩
    have hfn : f < n := by omega
    have htn : t < n := by omega
    have r1 := zOa (x := zC ((s.2.2.getD f []).getD t 0 + (l.getD i pd).2.2.2.1)) (t := t) hs.l4 hs.r4 hfn
    simp only [hf, ht, vIg, qT, hs.l2, hs.l3, hs.l4, List.length_set, hs.r4 f hfn, r1 t htn, vH8 hfn, vH8 htn, vIe]
    cases decide ((l.getD i pd).2.2.2.2.1 = 3) <;> rfl
   ·have hrow := hl.take i
    have hp := yHy hmay hs.l4 hs.r4 (fun i' hi' j' hj' => by
     rw [hs.sent i' hi' j' hj']
     have := zY7 hrow i' j'
     omega)
    have hbM : ∀ i', i' < n → -4611826755915743232 < s.1.getD i' 0 ∧ s.1.getD i' 0 < 4611826755915743232 := fun i' hi' => by
     rw [hs.more i' hi']; have := qE4 hrow i'; omega
    have hbS : ∀ i', i' < n → -4611826755915743232 < s.2.1.getD i' 0 ∧ s.2.1.getD i' 0 < 4611826755915743232 := fun i' hi' => by
     rw [hs.spent i' hi']; have := zKh hrow i'; omega
    refine ⟨by unfold zOo; simp [hs.l2], by unfold zP7; cases decide ((l.getD i pd).2.2.2.2.1 = 3) <;> simp [hs.l3], hp.1, hp.2.1, fun i' hi' => ?_, fun i' hi' => ?_, fun i' hi' j' hj' => ?_⟩
    ·rw [vFd hmay hs.l2 hi' hbM, hs.more i' hi', ← zAp l i pd hi, zBt]
     dsimp only [zS]
     omega
    ·rw [vHb hmay hs.l3 hi' hbS, hs.spent i' hi', ← zAp l i pd hi, zBt]
     dsimp only [zS]
     omega
    ·rw [hp.2.2 i' hi' j' hj', hs.sent i' hi' j' hj', ← zAp l i pd hi, yW8]) (n := k) (s := (List.replicate n 0, List.replicate n 0, List.replicate n (List.replicate n 0))) (by omega) ⟨by simp, by simp, by simp, fun i hi => by rw [zNz n i _ _ hi]; simp, fun i hi => by rw [zNz n i _ _ hi]; rfl, fun i hi => by rw [zNz n i _ _ hi]; rfl, fun i hi j hj => by
    unfold cell
    rw [zNz n i _ _ hi, zNz n j _ _ hj]
    rfl⟩
 obtain ⟨s, h1, h2⟩ := this
 rw [List.take_of_length_le (Nat.le_refl _)] at h2
 refine ⟨s.1, s.2.1, s.2.2, ?_, h2⟩
 unfold zSu
 rw [qT3 (by omega) hn, vCe (by omega) hn]
 simp only [vId]
 have h1' : zJs k k l l.length 0 (List.replicate n 0) (List.replicate n 0) (List.replicate n (List.replicate n 0)) = some s := h1
 rw [h1']
 rfl
theorem vB1 {k : Nat} {l : List zB} (hk : l.length < k) (hl : l.length < 9223372036854775808) (i : Int) : zUw k l i = some (!qH (fun x => !decide ((l.getD x pd).2.1 = i)) l.length 0) := by
 obtain ⟨x, h1, h2⟩ := zHe (L := fun c x => zQa k c l l.length x i) (N := l.length) (fun x => decide ((l.getD x pd).2.1 = i)) (fun c => by
   show zM1 k _ l l.length l.length i = _
   unfold zM1
   simp only [qB, vH9 (Nat.lt_irrefl _), vIf]) (fun c x hx => by
   show zM1 k _ l l.length x i = _
   unfold zM1 qMs
   simp only [qT, qX hx hl, qB, vIg, vH8 hx, vIe, vId]) hk
 unfold zUw qAt
 rw [h1]
 rw [← h2]
 cases x <;> rfl
theorem yKl {n : Nat} {l : List zB} (hl : ∀ p ∈ l, yN n p) (i : Nat) : qH (fun x => !decide ((l.getD x pd).2.1 = i)) l.length 0 = decide (zS (gN i) l + zS (gR i) l = 0) := by
 have hN := zGf (g := gN i) (l := l) fun p hp => (zY6 (hl p hp) i).1
 have hR := zGf (g := gR i) (l := l) fun p hp => (zZm (hl p hp) i).1
 have e : zS (gN i) l + zS (gR i) l = zS (fun p : zB => if p.2.1 = (i : Int) then p.2.2.2.1 else 0) l := by
  rw [← qTj]
  refine zV3 fun p hp => ?_
  unfold gN gR
  by_cases h1 : p.2.1 = i <;> by_cases h2 : p.2.2.2.2.1 = 3 <;> simp [h1, h2]
 rw [e]
 have h : ∀ (l : List zB), (∀ p ∈ l, yN n p) → ((∀ p ∈ l, ¬ p.2.1 = i) ↔ zS (fun p : zB => if p.2.1 = (i : Int) then p.2.2.2.1 else 0) l = 0) := by
  intro l
  induction l with
  | nil => intro _; simp [zS]
  | cons q l ih =>
   intro hm
   have ih := ih fun p hp => hm p (List.mem_cons_of_mem _ hp)
   have hq := hm q (List.mem_cons_self ..)
   have h0 : 0 ≤ zS (fun p : zB => if p.2.1 = i then p.2.2.2.1 else 0) l := zGf fun p hp => by
    have := (hm p (List.mem_cons_of_mem _ hp)).a1
    by_cases c : p.2.1 = i
    ·rw [if_pos c]; omega
    ·rw [if_neg c]; exact Int.le_refl 0
   unfold zS
   by_cases c : q.2.1 = i
   ·rw [if_pos c]
    have := hq.a1
    exact ⟨fun h => absurd c (h q (List.mem_cons_self ..)), fun h => by omega⟩
   ·rw [if_neg c, Int.zero_add, ← ih]
    exact ⟨fun h p hp => h p (List.mem_cons_of_mem _ hp), fun h p hp => by
     rcases List.mem_cons.1 hp with rfl | hp
     ·exact c
     ·exact h p hp⟩
 have hall : (∀ p ∈ l, ¬ p.2.1 = i) ↔ qH (fun x => !decide ((l.getD x pd).2.1 = i)) l.length 0 = true := by
  rw [zAv]
  constructor
  ·intro h j hj
   simpa using h _ (zAa hj)
  ·intro h p hp
   obtain ⟨j, hj, rfl⟩ := List.getElem_of_mem hp
   have := h j hj
   simpa [List.getD, hj] using this
 have := hall.symm.trans (h l hl)
 cases hc : qH (fun x => !decide ((l.getD x pd).2.1 = i)) l.length 0 with
 | true => rw [vH8 (this.1 hc)]
 | false =>
  rw [vH9]
  intro h'
  rw [this.2 h'] at hc; cases hc
def zIs (n lim : Int) : Bool := !decide (lim = -1) && decide (n > lim)
theorem yD6 (k : Nat) (n lim : Int) : zJt k n lim = some (zIs n lim) := by
 unfold zJt zIs
 cases decide (lim = -1) <;> rfl
theorem yZk (k : Nat) (b c r s : Int) (h : -9223372036854775808 ≤ r - s) (h' : r < 9223372036854775808) (hs : 0 ≤ s) : zGh k b c r s = some (vU r s) := by
 unfold zGh vU vZ
 rw [yH h (by omega), vIf]
 by_cases c : s ≥ r
 ·rw [if_pos c]
  by_cases e : r - s = 0
  ·rw [e]; rfl
  ·rw [vH8 (show (0 : Int) > r - s by omega)]; rfl
 ·rw [if_neg c, vH9 (show ¬ (0 : Int) > r - s by omega)]; rfl
def zIg (b p : List (List Int)) (l : List zB) (i : Nat) (short : Bool) (q : zB) : Bool :=
 decide (q.2.1 = i) && ((decide (q.2.2.2.2.1 = 3) && short) || zIs (cell p i q.2.2.1.toNat + dS l i q.2.2.1.toNat) (cell b i q.2.2.1.toNat))
theorem vE2 {k : Nat} {a : List qK} {b : List (List Int)} {m : List Int} {p : List (List Int)} {l : List zB} (hk : 100 < k) (hb : wP a b m p) (hl : vR a.length l) {r2 r3 : List Int} {m4 : List (List Int)} (hm : zXb a.length l r2 r3 m4) {i : Nat} (hi : i < a.length) (bal cr res n0 : Int) (hres : 0 ≤ res ∧ res ≤ 2305843009213693952) :
  zXx k l i bal cr res r2 r3 m4 n0 a b m p = some (!qH (fun x => !zIg b p l i (decide (n0 < vU res (zS (gR i) l))) (l.getD x pd)) l.length 0) := by
 have h6 := hb.n6
 have hl64 := hl.2
 have hR := zKh hl i
 obtain ⟨x, h1, h2⟩ := zHe (L := fun c x => zRq k c l l.length x i bal cr res r2 r3 m4 n0 a b m p) (N := l.length) (fun x => zIg b p l i (decide (n0 < vU res (zS (gR i) l))) (l.getD x pd)) (fun c => by
   show zMo k _ l l.length l.length i bal cr res r2 r3 m4 n0 a b m p = _
   unfold zMo
   simp only [qB, vH9 (Nat.lt_irrefl _), vIf]) (fun c x hx => by
   show zMo k _ l l.length x i bal cr res r2 r3 m4 n0 a b m p = _
   have hmay : yN a.length (l.getD x pd) := hl.1 _ (zAa hx)
   unfold zMo
   simp only [qT, qX hx (show l.length < 9223372036854775808 by omega), qB, vIg, vH8 hx, vIe]
   generalize l.getD x (0, (0, (0, (0, (0, (0, 0)))))) = q at hmay ⊢
   obtain ⟨id, f, t, am, cl, st, ti⟩ := q
   obtain ⟨f0, f1, t0, t1, ne, a1, a2, c1, c3⟩ := hmay
   dsimp only at f0 f1 t0 t1 ne a1 a2 c1 c3 ⊢
   obtain ⟨t, rfl⟩ : ∃ y : Nat, t = y := ⟨t.toNat, by omega⟩
   have htn : t < a.length := by omega
   unfold qE0 zIg
   dsimp only
   cases hf : decide (f = (i : Int)) with
   | false => simp
   | true =>
    have e1 : (r3.getD i 0) = zS (gR i) l := hm.spent i hi
    have e2 : (m4.getD i []).getD t 0 = dS l i t := hm.sent i hi t htn
    have hnet := hb.nums.net i hi t htn
    have hd := zY7 hl i t
    have e3 : zC ((p.getD i []).getD t 0 + dS l i t) = cell p i t + dS l i t := yH (by show _ ≤ cell p i t + dS l i t; omega) (by show cell p i t + dS l i t < _; omega)
    simp only [vIi, vIf, qT, hm.l3, hm.l4, hm.r4 i hi, hb.pl, hb.pr i hi, hb.bl, hb.br i hi, vH8 hi, vH8 htn, vIe, vIg, e1, e2, e3, yZk k bal cr res (zS (gR i) l) (by omega) (by omega) hR.1, vId, yD6, Bool.true_and]
    show _ = bif (decide (cl = 3) && decide (n0 < vU res (zS (gR i) l))) || zIs (cell p i t + dS l i t) (cell b i t) then _ else _
    cases decide (cl = 3) <;> cases decide (n0 < vU res (zS (gR i) l)) <;> rfl) (n := k) (by omega)
 unfold zXx qHc
 rw [h1, ← h2]
 cases x <;> rfl
theorem qFm {α : Type} {g : α → Int} : ∀ {l : List α}, (∀ p ∈ l, 0 ≤ g p) → (0 < zS g l ↔ ∃ p ∈ l, 0 < g p)
 | [], _ => by simp [zS]
 | q :: l, h => by
  have ih := qFm (g := g) (l := l) fun p hp => h p (List.mem_cons_of_mem _ hp)
  have h0 := zGf (g := g) (l := l) fun p hp => h p (List.mem_cons_of_mem _ hp)
  have hq := h q (List.mem_cons_self ..)
  unfold zS
  constructor
  ·intro hs
   by_cases c : 0 < g q
   ·exact ⟨q, List.mem_cons_self .., c⟩
   ·obtain ⟨p, hp, hg⟩ := ih.1 (by omega)
    exact ⟨p, List.mem_cons_of_mem _ hp, hg⟩
  ·rintro ⟨p, hp, hg⟩
   rcases List.mem_cons.1 hp with rfl | hp
   ·omega
   ·have := ih.2 ⟨p, hp, hg⟩; omega
theorem zYf {N : Nat} {p : Nat → Bool} : qH p N 0 = false ↔ ∃ j, j < N ∧ p j = false := by
 constructor
 ·intro h
  apply Classical.byContradiction
  intro hn
  have : qH p N 0 = true := zAv.2 fun j hj => by
   cases hp : p j with
   | true => rfl
   | false => exact absurd ⟨j, hj, hp⟩ hn
  rw [this] at h; cases h
 ·rintro ⟨j, hj, hp⟩
  cases h : qH p N 0 with
  | false => rfl
  | true => rw [zAv.1 h j hj] at hp; cases hp
theorem vDz {a : List qK} {b : List (List Int)} {p : List (List Int)} {l : List zB} (hl : vR a.length l) {i : Nat} (hi : i < a.length) (short : Bool) :
  (!qH (fun x => !zIg b p l i short (l.getD x pd)) l.length 0) = (!qH (zRu b p l i) a.length 0 || (decide (zS (gN i) l > 0) && short)) := by
 have hN := qFm (g := gN i) (l := l) fun p hp => (zY6 (hl.1 p hp) i).1
 have hS := fun j => qFm (g := gS i j) (l := l) fun p hp => (zVc (hl.1 p hp) i j).1
 rw [Bool.eq_iff_iff]
 simp only [Bool.not_eq_true', Bool.or_eq_true, vIh, vIc]
 rw [zYf, zYf]
 constructor
 ·rintro ⟨x, hx, hb⟩
  have hmay := hl.1 _ (zAa (d := pd) hx)
  have hmem := zAa (d := pd) hx
  generalize l.getD x pd = q at hb hmay hmem
  simp only [zIg, Bool.not_eq_false', vIh, Bool.or_eq_true, vIc] at hb
  obtain ⟨hf, hb⟩ := hb
  rcases hb with ⟨hc, hs⟩ | ho
  ·refine .inr ⟨hN.2 ⟨q, hmem, ?_⟩, hs⟩
   unfold gN
   rw [if_pos ⟨hf, hc⟩]
   have := hmay.a1; omega
  ·have h1 := hmay.t0; have h2 := hmay.t1
   refine .inl ⟨q.2.2.1.toNat, by omega, ?_⟩
   unfold zRu
   have hpos : zS (gS i q.2.2.1.toNat) l > 0 := (hS _).2 ⟨q, hmem, by
    unfold gS
    rw [if_pos ⟨hf, by omega⟩]
    have := hmay.a1; omega⟩
   rw [vH8 hpos]
   unfold zIs at ho
   rw [Bool.true_and, ho]
   rfl
 ·rintro (⟨j, hj, hb⟩ | ⟨hp, hs⟩)
  ·simp only [zRu, Bool.not_eq_false', vIh, vIc] at hb
   obtain ⟨hpos, ho⟩ := hb
   obtain ⟨q, hq, hg⟩ := (hS j).1 hpos
   obtain ⟨x, hx, rfl⟩ := List.getElem_of_mem hq
   refine ⟨x, hx, ?_⟩
   have e : l.getD x pd = l[x] := by simp [List.getD, hx]
   rw [e]
   unfold gS at hg
   by_cases c : l[x].2.1 = (i : Int) ∧ l[x].2.2.1 = (j : Int)
   ·unfold zIg zIs
    rw [vH8 c.1, c.2, vIg]
    simp [ho]
   ·rw [if_neg c] at hg; omega
  ·obtain ⟨q, hq, hg⟩ := hN.1 hp
   obtain ⟨x, hx, rfl⟩ := List.getElem_of_mem hq
   refine ⟨x, hx, ?_⟩
   have e : l.getD x pd = l[x] := by simp [List.getD, hx]
   rw [e]
   unfold gN at hg
   by_cases c : l[x].2.1 = (i : Int) ∧ l[x].2.2.2.2.1 = 3
   ·unfold zIg
    rw [vH8 c.1, vH8 c.2, hs]
    simp
   ·rw [if_neg c] at hg; omega
theorem vHg {k : Nat} {a : List qK} {b : List (List Int)} {m : List Int} {p : List (List Int)} {l : List zB} (hk : 100 < k) (hb : wP a b m p) (hl : vR a.length l) {r2 r3 : List Int} {m4 : List (List Int)} (hm : zXb a.length l r2 r3 m4) {i : Nat} (hi : i < a.length) (hs : decide (zS (gN i) l + zS (gR i) l = 0) = false) :
  zYj k r2 r3 m4 a b m p i l = some (zAx a b m p l i) := by
 have h6 := hb.n6
 have hl64 := hl.2
 have hB := qE4 hl i
 have hx := hb.acct i hi
 simp only [jB, vIh, vIc] at hx
 have hbal : -4611686018427387904 < (a.getD i ad).1 ∧ (a.getD i ad).1 < 4611686018427387904 ∧ 0 ≤ (a.getD i ad).2.1 ∧ (a.getD i ad).2.1 ≤ 2305843009213693952 ∧ 0 ≤ (a.getD i ad).2.2 ∧ (a.getD i ad).2.2 ≤ 2305843009213693952 := ⟨hx.1, hx.2.1, hx.2.2.1, hx.2.2.2.1, hx.2.2.2.2.1, hx.2.2.2.2.2⟩
 have hnet := zQ9 (qY9 hb hi) a.length
 have hnl : (a.length : Int) * 72057594037927936 ≤ 6 * 72057594037927936 := by omega
 have e1 : r2.getD i 0 = zS (gB i) l := hm.more i hi
 unfold zYj
 simp only [qT, vH8 hi, vIe, vIg, hm.l2, hm.l4, e1, hm.r4 i hi]
 rw [vGg (by omega) (by omega) hi hb.pl (hb.pr i hi) (qY9 hb hi)]
 show (bif decide (zC (zC ((a.getD i ad).1 + (a.getD i ad).2.1) + zS (gB i) l) < 0) then _ else _) = _
 rw [yH (x := (a.getD i ad).1 + (a.getD i ad).2.1) (by omega) (by omega), yH (x := (a.getD i ad).1 + (a.getD i ad).2.1 + zS (gB i) l) (by omega) (by omega)]
 unfold zAx
 rw [hs]
 cases hn : decide ((a.getD i ad).1 + (a.getD i ad).2.1 + zS (gB i) l < 0) with
 | true => simp
 | false =>
  obtain ⟨s, q1, q2⟩ := wZ (L := fun c j (s : Int) => zIq k c l s (m4.getD i []) a.length j r2 r3 m4 a b m p i (a.getD i ad).1 (a.getD i ad).2.1 (a.getD i ad).2.2 ((a.getD i ad).1 + (a.getD i ad).2.1 + zS (gB i) l)) (N := a.length) (fun s => (l, s, r2, r3, m4, a, b, m, p, (i : Int), (a.getD i ad).1, (a.getD i ad).2.1, (a.getD i ad).2.2, (a.getD i ad).1 + (a.getD i ad).2.1 + zS (gB i) l)) (fun j s => s = qL (cell p i) a.length + qL (dS l i) j) (fun c s hs => by
    show zNs k _ l s (m4.getD i []) a.length a.length r2 r3 m4 a b m p i (a.getD i ad).1 (a.getD i ad).2.1 (a.getD i ad).2.2 ((a.getD i ad).1 + (a.getD i ad).2.1 + zS (gB i) l) = _
    unfold zNs
    simp only [qB, vH9 (Nat.lt_irrefl _), vIf]) (fun c j s hj hs => by
    refine ⟨qL (cell p i) a.length + qL (dS l i) (j + 1), ?_, rfl⟩
    show zNs k _ l s (m4.getD i []) a.length j r2 r3 m4 a b m p i (a.getD i ad).1 (a.getD i ad).2.1 (a.getD i ad).2.2 ((a.getD i ad).1 + (a.getD i ad).2.1 + zS (gB i) l) = _
    have e2 : (m4.getD i []).getD j 0 = dS l i j := hm.sent i hi j hj
    have hs1 := zQ9 (fun j => zY7 hl i j) j
    have hs2 := zY7 hl i j
    have hj1 : (j : Int) * 70368744177664 ≤ 6 * 70368744177664 := by omega
    unfold zNs
    simp only [qT, qX hj (show a.length < 9223372036854775808 by omega), qB, vIg, hm.r4 i hi, vH8 hj, vIe, e2]
    rw [hs, yH (x := qL (cell p i) a.length + qL (dS l i) j + dS l i j) (by omega) (by omega), Int.add_assoc]
    rfl) (n := k) (s := qL (cell p i) a.length) (by omega) (by show _ = _ + 0; omega)
  have q1' : zIq k k l (qL (cell p i) a.length) (m4.getD i []) a.length 0 r2 r3 m4 a b m p i (a.getD i ad).1 (a.getD i ad).2.1 (a.getD i ad).2.2 ((a.getD i ad).1 + (a.getD i ad).2.1 + zS (gB i) l) = _ := q1
  simp only [vIf, vId]
  rw [show zIq k k l (qL (cell p i) a.length) (m4.getD i []) a.length 0 r2 r3 m4 a b m p i (a.getD i (0, (0, 0))).1 (a.getD i (0, (0, 0))).2.1 (a.getD i (0, (0, 0))).2.2 ((a.getD i ad).1 + (a.getD i ad).2.1 + zS (gB i) l) = _ from q1']
  simp only [vId, qT, hb.ml, vH8 hi, vIe, vIg, yD6]
  rw [vE2 hk hb hl hm hi _ _ _ _ ⟨hbal.2.2.2.2.1, hbal.2.2.2.2.2⟩, vDz hl hi, q2, yOn hl.1 i hi]
  have en : qL (cell p i) a.length + -zS (gB i) l = qL (cell p i) a.length - zS (gB i) l := by omega
  rw [en]
  unfold zIs
  simp only [vId, vIj, Bool.true_and, Bool.false_or]
  cases qH (zRu b p l i) a.length 0 <;> cases decide (zS (gN i) l > 0) <;> cases decide ((a.getD i ad).1 + (a.getD i ad).2.1 + zS (gB i) l < vU (a.getD i ad).2.2 (zS (gR i) l)) <;> cases decide (m.getD i 0 = -1) <;> cases decide (qL (cell p i) a.length - zS (gB i) l > m.getD i 0) <;> rfl
theorem vD4 (f : Nat → Bool) (i : Nat) : ((List.range (i + 1)).filter f).map (fun (x : Nat) => (x : Int)) = (((List.range i).filter f).map fun (x : Nat) => (x : Int)) ++ (bif f i then [(i : Int)] else []) := by
 rw [List.range_succ, List.filter_append, List.map_append]
 congr 1
 cases h : f i <;> simp [h]
theorem qFh {k : Nat} {a : List qK} {b : List (List Int)} {m : List Int} {p : List (List Int)} {l : List zB} (hk : 100 < k) (hb : wP a b m p) (hl : vR a.length l) : zH7 k a b m p l = some (zIc a b m p l) := by
 have h6 := hb.n6
 have hl64 := hl.2
 obtain ⟨r2, r3, m4, g1, hm⟩ := vG8 hk h6 hl
 obtain ⟨r, h1, h2⟩ := wZ (L := fun c i (r : List Int) => zMp k c l a.length i a b m p r2 r3 m4 r) (N := a.length) (fun r => r) (fun i r => r = ((List.range i).filter fun i => zAx a b m p l i).map fun (x : Nat) => (x : Int)) (fun c r hr => by
   show zJn k _ l a.length a.length a b m p r2 r3 m4 r = _
   unfold zJn
   simp only [qB, vH9 (Nat.lt_irrefl _), vIf]) (fun c i r hi hr => by
   have hle : r.length ≤ i := by
    rw [hr, List.length_map]
    have := List.length_filter_le (fun i => zAx a b m p l i) (List.range i)
    rw [List.length_range] at this
    exact this
   have hroom : zY (r.length + 1) 8 = true := wA (by omega) (by omega)
   refine ⟨_, ?_, rfl⟩
   show zJn k _ l a.length i a b m p r2 r3 m4 r = _
   unfold zJn
   simp only [qX hi (show a.length < 9223372036854775808 by omega), qB, vH8 hi, vIe, vB1 (show l.length < k by omega) (by omega), vId, hroom]
   rw [yKl hl.1, vD4, ← hr]
   cases hz : decide (zS (gN i) l + zS (gR i) l = 0) with
   | true =>
    have : zAx a b m p l i = false := by unfold zAx; rw [hz]; rfl
    rw [this]
    simp
   | false =>
    rw [vHg hk hb hl hm hi hz]
    simp only [vId, vIj, vIe]
    cases zAx a b m p l i <;> simp) (n := k) (s := []) (by omega) rfl
 unfold zH7
 rw [g1]
 simp only [vId]
 have h1' : zMp k k l a.length 0 a b m p r2 r3 m4 [] = some r := h1
 rw [h1', h2]
 rfl
theorem yZ4 {a : List qK} {b : List (List Int)} {m : List Int} {p : List (List Int)} {l : List zB} : decide (((zIc a b m p l).length : Int) = 0) = qH (fun i => !zAx a b m p l i) a.length 0 := by
 unfold zIc
 rw [List.length_map]
 cases h : qH (fun i => !zAx a b m p l i) a.length 0 with
 | true =>
  rw [zAv] at h
  apply vH8
  have : (List.range a.length).filter (fun i => zAx a b m p l i) = [] := by
   rw [List.filter_eq_nil_iff]
   intro i hi
   have := h i (by simpa using hi)
   simpa using this
  rw [this]; rfl
 | false =>
  apply vH9
  intro h0
  obtain ⟨j, hj, hs⟩ := zYf.1 h
  have hm : j ∈ (List.range a.length).filter (fun i => zAx a b m p l i) := by
   rw [List.mem_filter]
   exact ⟨by simpa using hj, by simpa using hs⟩
  have := List.length_pos_of_mem hm
  omega
theorem vBs {k : Nat} {l : List zB} (hk : l.length < k) (hl : l.length < 9223372036854775808) (a : List qK) (b : List (List Int)) (m : List Int) (p : List (List Int)) : zWd k l a b m p = some (!zC3 a.length l) := by
 obtain ⟨x, h1, h2⟩ := zHe (L := fun c i => zQc k c l l.length i a b m p) (N := l.length) (fun i => !zD0 a.length (l.getD i pd)) (fun c => by
  show zM6 k _ l l.length l.length a b m p = _
  unfold zM6
  simp only [qB, vH9 (Nat.lt_irrefl _), vIf]) (fun c i hi => by
  show zM6 k _ l l.length i a b m p = _
  unfold zM6 qG8
  simp only [qT, qX hi hl, qB, vIg, vH8 hi, vIe, qJ6, vId]) hk
 unfold zWd qDf
 rw [h1]
 simp only [Bool.not_not] at h2
 unfold zC3
 rw [← h2]
 cases x <;> rfl
theorem vG7 {k : Nat} {a : List qK} {b : List (List Int)} {m : List Int} {p : List (List Int)} {l : List zB} (hk : 100 < k) (hb : wP a b m p) (hl : l.length ≤ 80) : zHq k a b m p l = some (zL0 a b m p l) := by
 unfold zHq zL0
 have e : decide ((l.length : Int) ≤ 64) = decide (l.length ≤ 64) := by
  by_cases h : l.length ≤ 64
  ·rw [vH8 h, vH8 (by omega)]
  ·rw [vH9 h, vH9 (by omega)]
 rw [e, vBs (by omega) (by omega)]
 cases h64 : decide (l.length ≤ 64) with
 | false => simp
 | true =>
  cases hm : zC3 a.length l with
  | false => rfl
  | true =>
   have hr : vR a.length l := ⟨zJr.1 hm, vIa h64⟩
   simp only [vIe, vId, vIi, vIj, qFh hk hb hr, yZ4, Bool.and_self, Bool.true_and]
def qS (l : List zB) : Prop := List.Pairwise (fun p q => p.1 ≠ q.1) l
theorem qS.filter {l : List zB} (h : qS l) (f : zB → Bool) : qS (l.filter f) := List.Pairwise.filter f h
theorem zQz {α : Type} (f : α → Bool) (l : List α) (i : Nat) (d : α) (h : i < l.length) : (l.take (i + 1)).filter f = (l.take i).filter f ++ (bif f (l.getD i d) then [l.getD i d] else []) := by
 rw [← zAp l i d h, List.filter_append]
 congr 1
theorem yFx {α X : Type} (d : α) {l : List α} {L : Nat → Int → List α → Option X} (f : α → Bool) (e : List α → X) (hend : ∀ n s, L (n + 1) (l.length : Int) s = some (e s))
  (hstep : ∀ n i s, i < l.length → s.length ≤ i → L (n + 1) (i : Int) s = L n ((i + 1 : Nat) : Int) (bif f (l.getD i d) then s ++ [l.getD i d] else s)) {n : Nat} (hn : l.length < n) :
  L n 0 [] = some (e (l.filter f)) := by
 obtain ⟨s', h1, h2⟩ := wZ (L := L) (N := l.length) e (fun i s => s = (l.take i).filter f) (fun n s _ => hend n s) (fun n i s hi hs => by
  refine ⟨_, hstep n i s hi ?_, ?_⟩
  ·subst hs
   have := List.length_filter_le f (l.take i)
   rw [List.length_take] at this
   omega
  ·subst hs
   rw [zQz f l i d hi]
   cases f (l.getD i d) <;> simp) (s := []) hn (by simp)
 rw [h1, h2, List.take_length]
def yT (l : List zB) : Prop := l.length ≤ 1000
theorem zGw {n : Nat} (h : n ≤ 1000) : zY (n + 1) 56 = true := wA (by omega) (by omega)
def zDc (t : Int) (p : zB) : Bool := bif decide (t ≥ p.2.2.2.2.2.1) then decide (t ≤ p.2.2.2.2.2.2) else false
theorem zZ5 {k : Nat} {l : List zB} (hk : l.length < k) (hl : yT l) (t : Int) : zM3 k l t = some (l.filter (zDc t)) := by
 unfold zM3 qNr
 have := yFx pd (L := fun n i s => zPp k n l l.length i t s) (zDc t) id (fun n s => by
  show zNq k _ l l.length l.length t s = _
  unfold zNq
  simp only [qB, vH9 (Nat.lt_irrefl _), vIf]; rfl) (fun n i s hi hs => by
  show zNq k _ l l.length i t s = _
  unfold zNq qOs qA4
  unfold yT at hl
  simp only [qT, qX hi (show l.length < 9223372036854775808 by omega), qB, vIg, vH8 hi, vIe, zGw (show s.length ≤ 1000 by omega)]
  unfold zDc
  cases h1 : decide (t ≥ (l.getD i pd).2.2.2.2.2.1) with
  | false => rfl
  | true =>
   cases h2 : decide (t ≤ (l.getD i pd).2.2.2.2.2.2) <;> rfl) hk
 rw [this]
 rfl
def wR (f : Int) (p : zB) : Bool := decide (p.2.1 = f)
def qAv (r : List zB) (p : zB) : Bool := qH (fun x => decide (((r.filter (wR p.2.1)).getD x pd).2.2.2.2.1 = 3)) (r.filter (wR p.2.1)).length 0
def qMf (r : List zB) (p : zB) : Bool := decide ((r.filter (wR p.2.1)).getD 0 pd = p)
def zGx (r : List zB) (p : zB) : Bool := qMf r p || qAv r p
def wF (l : List zB) (t : Int) : List zB := (l.filter (zDc t)).filter (zGx (l.filter (zDc t)))
def zIz (f : Int) (q : zB) : Bool := decide (q.2.1 = f) && !decide (q.2.2.2.2.1 = 3)
theorem vFh {k : Nat} {l : List zB} (hk : l.length < k) (hl : l.length < 9223372036854775808) (i f t a c s e : Int) :
  zXw k l i f t a c s e = some (!qH (fun x => !zIz f (l.getD x pd)) l.length 0) := by
 obtain ⟨x, h1, h2⟩ := zHe (L := fun n i' => zJu k n l l.length i' i f t a c s e) (N := l.length) (fun x => zIz f (l.getD x pd)) (fun n => by
  show zL3 k _ l l.length l.length i f t a c s e = _
  unfold zL3
  simp only [qB, vH9 (Nat.lt_irrefl _), vIf]) (fun n j hj => by
  show zL3 k _ l l.length j i f t a c s e = _
  unfold zL3 qM5
  simp only [qT, qX hj hl, qB, vIg, vH8 hj, vIe]
  unfold zIz
  cases h1 : decide ((l.getD j pd).2.1 = f) with
  | false => rfl
  | true => cases h2 : decide ((l.getD j pd).2.2.2.2.1 = 3) <;> rfl) hk
 unfold zXw qO0
 have h1' : zJu k k l l.length 0 i f t a c s e = some x := h1
 rw [h1']
 rw [← h2]
 cases x <;> rfl
theorem yR1 (r : List zB) (p : zB) : qAv r p = true ↔ ∀ q ∈ r, q.2.1 = p.2.1 → q.2.2.2.2.1 = 3 := by
 unfold qAv
 rw [zAv]
 constructor
 ·intro h q hq he
  have hm : q ∈ r.filter (wR p.2.1) := List.mem_filter.2 ⟨hq, by simp [wR, he]⟩
  obtain ⟨i, hi, e⟩ := List.getElem_of_mem hm
  have := h i hi
  rw [List.getD_eq_getElem?_getD, List.getElem?_eq_getElem hi, e] at this
  simpa using this
 ·intro h j hj
  have hm := zAa (d := pd) hj
  rw [List.mem_filter] at hm
  have := h _ hm.1 (by simpa [wR] using hm.2)
  simpa using this
theorem yY8 (r : List zB) (f : Int) : qH (fun x => !zIz f (r.getD x pd)) r.length 0 = true ↔ ∀ q ∈ r, q.2.1 = f → q.2.2.2.2.1 = 3 := by
 rw [zAv]
 constructor
 ·intro h q hq he
  obtain ⟨i, hi, e⟩ := List.getElem_of_mem hq
  have := h i hi
  rw [List.getD_eq_getElem?_getD, List.getElem?_eq_getElem hi, e] at this
  simpa [zIz, he] using this
 ·intro h j hj
  have := h _ (zAa (d := pd) hj)
  simp only [zIz, Bool.not_eq_true', Bool.and_eq_false_iff, Bool.not_eq_false', vIc, decide_eq_false_iff_not]
  by_cases c : (r.getD j pd).2.1 = f
  ·exact .inr (this c)
  ·exact .inl c
theorem qS.split {r : List zB} (h : qS r) {i : Nat} (hi : i < r.length) : ∀ q ∈ r.take i, q.1 ≠ (r.getD i pd).1 := by
 intro q hq
 have e : r.take (i + 1) = r.take i ++ [r.getD i pd] := (zAp r i pd hi).symm
 have hs : qS (r.take (i + 1)) := List.Pairwise.sublist (List.take_sublist _ _) h
 rw [e] at hs
 exact (List.pairwise_append.1 hs).2.2 q hq _ (List.mem_singleton.2 rfl)
theorem zR2 {α : Type} (r : List α) (i : Nat) (d : α) (hi : i < r.length) : r = r.take i ++ r.getD i d :: r.drop (i + 1) := by
 conv => lhs; rw [← List.take_append_drop i r]
 congr 1
 rw [List.drop_eq_getElem_cons hi]
 congr 1
 rw [List.getD_eq_getElem?_getD, List.getElem?_eq_getElem hi]; rfl
theorem yV1 {r : List zB} (h : qS r) {i : Nat} (hi : i < r.length) : qMf r (r.getD i pd) = !(r.take i).any (wR (r.getD i pd).2.1) := by
 unfold qMf
 have e : ∀ f, wR f (r.getD i pd) = true → r.filter (wR f) = (r.take i).filter (wR f) ++ r.getD i pd :: (r.drop (i + 1)).filter (wR f) := by
  intro f hf
  have := congrArg (List.filter (wR f)) (zR2 r i pd hi)
  rwa [List.filter_append, List.filter_cons_of_pos hf] at this
 have e := e (r.getD i pd).2.1 (by simp [wR])
 rw [e]
 cases ha : (r.take i).any (wR (r.getD i pd).2.1) with
 | false =>
  have : (r.take i).filter (wR (r.getD i pd).2.1) = [] := by
   rw [List.filter_eq_nil_iff]
   intro q hq hf
   rw [List.any_eq_false] at ha
   exact ha q hq hf
  rw [this]
  simp
 | true =>
  cases hf : (r.take i).filter (wR (r.getD i pd).2.1) with
  | nil =>
   rw [List.filter_eq_nil_iff] at hf
   rw [List.any_eq_true] at ha
   obtain ⟨q, h1, h2⟩ := ha
   exact absurd h2 (hf q h1)
  | cons q l =>
   have hq : q ∈ r.take i := (List.mem_filter.1 (hf ▸ List.mem_cons_self .. : q ∈ (r.take i).filter _)).1
   have := h.split hi q hq
   have e2 : (q :: l ++ r.getD i pd :: (r.drop (i + 1)).filter (wR (r.getD i pd).2.1)).getD 0 pd = q := rfl
   rw [e2]
   simp only [vIi, decide_eq_false_iff_not]
   intro c
   exact this (by rw [c])
theorem ySv {r : List zB} (h : qS r) {i : Nat} (hi : i < r.length) :
  zGx r (r.getD i pd) = (!(r.take i).any (wR (r.getD i pd).2.1) || (decide ((r.getD i pd).2.2.2.2.1 = 3) && qH (fun x => !zIz (r.getD i pd).2.1 (r.getD x pd)) r.length 0)) := by
 unfold zGx
 rw [yV1 h hi]
 congr 1
 rw [Bool.eq_iff_iff, yR1, vIh, yY8, vIc]
 exact ⟨fun g => ⟨g _ (zAa hi) rfl, g⟩, fun g => g.2⟩
theorem lookup_cons (f g : Int) (l : List (Int × Bool)) : (List.lookup f ((g, true) :: l)).getD false = (decide (f = g) || (List.lookup f l).getD false) := by
 rw [List.lookup_cons]
 by_cases c : f = g
 ·subst c; simp
 ·have : (f == g) = false := by simpa using c
  rw [this]
  simp [c]
theorem qRs {k : Nat} {l : List zB} (hk : l.length < k) (hl : yT l) (hd : qS l) (t : Int) : zQe k l t = some (wF l t) := by
 unfold zQe
 rw [zZ5 hk hl]
 simp only [vId]
 unfold wF
 have hl' : (l.filter (zDc t)).length ≤ l.length := List.length_filter_le _ _
 have hd' := hd.filter (zDc t)
 generalize l.filter (zDc t) = r at hl' hd'
 unfold yT at hl
 unfold qFd
 obtain ⟨s', h1, h2, h3⟩ := wZ (L := fun n i (s : List (Int × Bool) × List zB) => zKa k n r r.length i s.1 r s.2) (N := r.length) (fun s => (s.1, r, s.2)) (fun i s => (∀ f, (List.lookup f s.1).getD false = (r.take i).any (wR f)) ∧ s.2 = (r.take i).filter (zGx r)) (fun n s _ => by
  show zK2 k _ r r.length r.length s.1 r s.2 = _
  unfold zK2
  simp only [qB, vH9 (Nat.lt_irrefl _), vIf]) (fun n i s hi hs => by
  refine ⟨((( r.getD i pd).2.1, true) :: s.1, bif zGx r (r.getD i pd) then s.2 ++ [r.getD i pd] else s.2), ?_, ?_, ?_⟩
  ·show zK2 k _ r r.length i s.1 r s.2 = _
   unfold zK2 qIw
   have hlen : s.2.length ≤ i := by
    rw [hs.2]
    have := List.length_filter_le (zGx r) (r.take i)
    rw [List.length_take] at this
    omega
   have hc := vFh (k := k) (l := r) (by omega) (by omega) (r.getD i pd).1 (r.getD i pd).2.1 (r.getD i pd).2.2.1 (r.getD i pd).2.2.2.1 (r.getD i pd).2.2.2.2.1 (r.getD i pd).2.2.2.2.2.1 (r.getD i pd).2.2.2.2.2.2
   have hlk := hs.1 (r.getD i pd).2.1
   have hp := ySv hd' hi
   simp only [pd] at hc hlk hp ⊢
   simp only [qT, qX hi (show r.length < 9223372036854775808 by omega), qB, vIg, vH8 hi, vIe, zGw (show s.2.length ≤ 1000 by omega)]
   rw [hc, hlk, hp]
   generalize (r.take i).any _ = x
   generalize qH _ _ 0 = y
   generalize decide ((r.getD i (0, (0, (0, (0, (0, (0, 0))))))).2.2.2.2.1 = 3) = z
   cases x <;> cases y <;> cases z <;> rfl
  ·intro f
   rw [lookup_cons, hs.1 f, ← zAp r i pd hi, List.any_append, Bool.or_comm]
   congr 1
   simp only [List.any_cons, List.any_nil, Bool.or_false, wR]
   rw [Bool.eq_iff_iff]
   simp only [vIc]
   exact eq_comm
  ·show (bif zGx r (r.getD i pd) then s.2 ++ [r.getD i pd] else s.2) = _
   rw [hs.2, zQz _ _ _ pd hi]
   cases zGx r (r.getD i pd) <;> simp) (s := ([], [])) (show r.length < k by omega) ⟨fun f => by simp, by simp⟩
 have h1' : zKa k k r r.length 0 [] r [] = some (s'.1, r, s'.2) := h1
 rw [h1', h3, List.take_length]
 rfl
def zGy (p : Nat → Bool) : Nat → Nat → Option Nat
 | 0, _ => none
 | c + 1, i => bif p i then some i else zGy p c (i + 1)
def yNt : Option Nat → Unit ⊕ Int
 | some x => .inr (x : Int)
 | none => .inl ()
theorem yCy {L : Nat → Int → Option (Unit ⊕ Int)} {N : Nat} (bad : Nat → Bool) (hend : ∀ n, L (n + 1) (N : Int) = some (.inl ()))
  (hstep : ∀ n i, i < N → L (n + 1) (i : Int) = bif bad i then some (.inr (i : Int)) else L n ((i + 1 : Nat) : Int)) :
  ∀ c i n, i + c = N → c < n → L n (i : Int) = some (yNt (zGy bad c i))
 | 0, i, n, h, hn => by
  obtain ⟨n, rfl⟩ : ∃ m, n = m + 1 := ⟨n - 1, by omega⟩
  have : i = N := by omega
  subst this
  exact hend n
 | c + 1, i, n, h, hn => by
  obtain ⟨n, rfl⟩ : ∃ m, n = m + 1 := ⟨n - 1, by omega⟩
  rw [hstep n i (by omega)]
  unfold zGy
  cases hb : bad i with
  | true => rfl
  | false =>
   simp only [vIf]
   exact yCy bad hend hstep c (i + 1) n (by omega) (by omega)
theorem yNm {p : Nat → Bool} : ∀ {c i x : Nat}, zGy p c i = some x → i ≤ x ∧ x < i + c ∧ p x = true ∧ ∀ j, i ≤ j → j < x → p j = false
 | 0, _, _, h => by cases h
 | c + 1, i, x, h => by
  unfold zGy at h
  cases hp : p i with
  | true =>
   rw [hp] at h
   simp only [vIe, Option.some.injEq] at h
   subst h
   exact ⟨Nat.le_refl _, by omega, hp, fun j h1 h2 => absurd h1 (by omega)⟩
  | false =>
   rw [hp] at h
   simp only [vIf] at h
   obtain ⟨h1, h2, h3, h4⟩ := yNm h
   refine ⟨by omega, by omega, h3, fun j j1 j2 => ?_⟩
   by_cases e : j = i
   ·subst e; exact hp
   ·exact h4 j (by omega) j2
theorem yB0 {p : Nat → Bool} : ∀ {c i : Nat}, zGy p c i = none → ∀ j, i ≤ j → j < i + c → p j = false
 | 0, _, _ => fun j h1 h2 => absurd h1 (by omega)
 | c + 1, i, h => by
  unfold zGy at h
  cases hp : p i with
  | true =>
   rw [hp] at h
   cases h
  | false =>
   rw [hp] at h
   simp only [vIf] at h
   intro j j1 j2
   by_cases e : j = i
   ·subst e; exact hp
   ·exact yB0 h j (by omega) (by omega)
def wK (l : List zB) (id : Int) : Option Nat := zGy (fun x => decide ((l.getD x pd).1 = id)) l.length 0
def zHv (l : List zB) (id : Int) : Int := match wK l id with | some x => (x : Int) | none => -1
theorem zDh {l : List zB} {id : Int} {x : Nat} (h : wK l id = some x) : x < l.length ∧ (l.getD x pd).1 = id := by
 obtain ⟨_, h2, h3, _⟩ := yNm h
 exact ⟨by omega, by simpa using h3⟩
theorem vCz {l : List zB} {id : Int} (h : wK l id = none) : ∀ p ∈ l, p.1 ≠ id := by
 intro p hp e
 obtain ⟨i, hi, e'⟩ := List.getElem_of_mem hp
 have := yB0 h i (by omega) (by omega)
 rw [List.getD_eq_getElem?_getD, List.getElem?_eq_getElem hi, e'] at this
 simp [e] at this
theorem qHg {l : List zB} {p : zB} (h : p ∈ l) : ∃ x, wK l p.1 = some x := by
 cases e : wK l p.1 with
 | some x => exact ⟨x, rfl⟩
 | none => exact absurd rfl (vCz e p h)
theorem zRp {k : Nat} {l : List zB} (hk : l.length < k) (hl : l.length < 9223372036854775808) (id : Int) : zCt k l id = some (zHv l id) := by
 have := yCy (L := fun n i => zNr k n l l.length i id) (N := l.length) (fun x => decide ((l.getD x pd).1 = id)) (fun n => by
  show zI7 k _ l l.length l.length id = _
  unfold zI7
  simp only [qB, vH9 (Nat.lt_irrefl _), vIf]) (fun n j hj => by
  show zI7 k _ l l.length j id = _
  unfold zI7 qKj
  simp only [qT, qX hj hl, qB, vIg, vH8 hj, vIe]
  rfl) l.length 0 k (by omega) hk
 have h1 : zNr k k l l.length 0 id = some (yNt (wK l id)) := this
 unfold zCt qFz zHv
 rw [h1]
 cases wK l id <;> rfl
def vA (l : List zB) (x : Nat) : List zB := l.take x ++ l.drop (x + 1)
theorem zDb {l : List zB} {x : Nat} (h : x < l.length) : (vA l x).length = l.length - 1 := by
 unfold vA
 rw [List.length_append, List.length_take, List.length_drop]
 omega
theorem zFd (l : List zB) (x : Nat) : List.Sublist (vA l x) l := by
 unfold vA
 conv => rhs; rw [← List.take_append_drop x l]
 exact List.Sublist.append (List.Sublist.refl _) (List.drop_sublist_drop_left l (by omega))
theorem qS.cut {l : List zB} (h : qS l) (x : Nat) : qS (vA l x) := List.Pairwise.sublist (zFd l x) h
theorem yAt (k : Nat) {l : List zB} {x : Nat} (hx : x < l.length) (hl : yT l) : zQl k l x ((x + 1 : Nat) : Int) = some (vA l x) := by
 unfold zQl
 unfold yT at hl
 have c1 : (decide ((0 : Int) ≤ (x : Int))) = true := by simp
 have c2 : decide ((x : Int) ≤ ((x + 1 : Nat) : Int)) = true := vH8 (by omega)
 have c3 : decide (((x + 1 : Nat) : Int) ≤ (l.length : Int)) = true := vH8 (by omega)
 have c4 : decide ((l.length : Int) ≤ (l.length : Int)) = true := by simp
 have c5 : decide ((x : Int) = ((x + 1 : Nat) : Int)) = false := vH9 (by omega)
 have c6 : decide ((x : Int) ≤ (l.length : Int)) = true := vH8 (by omega)
 have c7 : decide ((0 : Int) ≤ ((x + 1 : Nat) : Int)) = true := vH8 (by omega)
 have c8 : Nat.ble (x - 0) (0 + (x + 1)) = true := Nat.ble_eq_true_of_le (by omega)
 simp only [vIg, c1, c2, c3, c4, c5, c6, c7, c8, Bool.and_true, vIe, vIf]
 have e0 : x - 0 + (l.length - (x + 1)) = l.length - 1 := by omega
 have e1 : List.take (x - 0) l ++ qY l (0 + (x + 1)) (l.length - (x + 1)) = vA l x := by
  unfold qY vA
  rw [Nat.sub_zero, Nat.zero_add]
  congr 1
  rw [List.take_of_length_le]
  rw [List.length_drop]
  exact Nat.le_refl _
 have e2 : (qY (vA l x ++ List.drop (l.length - 1) l) 0 (l.length - 1)) = vA l x := by
  unfold qY
  rw [List.drop_zero, List.take_append_of_le_length (by rw [zDb hx]; exact Nat.le_refl _), List.take_of_length_le (by rw [zDb hx]; exact Nat.le_refl _)]
 have e3 : (vA l x ++ List.drop (l.length - 1) l).length = l.length := by
  rw [List.length_append, List.length_drop, zDb hx]; omega
 have c9 : decide ((0 : Int) ≤ ((vA l x).length : Int)) = true := by simp
 have c10 : decide (((vA l x).length : Int) ≤ (l.length : Int)) = true := vH8 (by rw [zDb hx]; omega)
 have c11 : decide ((l.length : Int) ≤ ((l.length - 0 : Nat) : Int)) = true := by simp
 have e4 : List.take (0 + (vA l x).length) (vA l x ++ List.drop (l.length - 1) l) = vA l x := by
  rw [Nat.zero_add, List.take_append_of_le_length (Nat.le_refl _), List.take_of_length_le (Nat.le_refl _)]
 simp only [e0, e1, e2, e3, c9, c10, c11, e4, Bool.and_true, vIe, Option.some.injEq]
 rw [List.append_assoc, List.take_append_of_le_length (by rw [zDb hx]; exact Nat.le_refl _), List.take_of_length_le (by rw [zDb hx]; exact Nat.le_refl _)]
def zDn (l : List zB) (id : Int) : List zB × Int × Int × Int × Int × Int × Int × Int × Int := match wK l id with
 | some x => (vA l x, (l.getD x pd).1, (l.getD x pd).2.1, (l.getD x pd).2.2.1, (l.getD x pd).2.2.2.1, (l.getD x pd).2.2.2.2.1, (l.getD x pd).2.2.2.2.2.1, (l.getD x pd).2.2.2.2.2.2, 0)
 | none => (l, 0, 0, 0, 0, 0, 0, 0, 4)
theorem zHr {k : Nat} {l : List zB} (hk : l.length < k) (hl : yT l) (id : Int) : zDw k l id = some (zDn l id) := by
 unfold yT at hl
 unfold zDw
 rw [zRp hk (by omega)]
 unfold zHv zDn
 cases hp : wK l id with
 | none => rfl
 | some x =>
  have hx := (zDh hp).1
  have e1 : decide ((x : Int) < 0) = false := vH9 (by omega)
  have e2 : zGl k l = some l := by
   unfold zGl
   rw [wA (by omega) (by omega)]
   rfl
  simp only [vId, e1, vIf, e2, qX hx (show l.length < 9223372036854775808 by omega), yAt k hx hl, qT, vH8 hx, vIe, vIg]
def leP (q p : zB) : Bool := decide (q.2.1 < p.2.1) || (decide (q.2.1 = p.2.1) && decide (q.2.2.2.2.1 ≤ p.2.2.2.2.1))
def ltP (q p : zB) : Bool := decide (q.2.1 < p.2.1) || (decide (q.2.1 = p.2.1) && decide (q.2.2.2.2.1 < p.2.2.2.2.1))
theorem yRj (n : Nat) (x y : Int) : zVh (n + 3) [x, y] = some (if x = 0 then y else x) := by
 have key : ∀ n : Nat, zLz (n + 3) (n + 3) 0 [x, y] 2 0 = bif !decide (x = 0) then some (.inr x) else bif !decide (y = 0) then some (.inr y) else some (.inl 0) := fun n => rfl
 unfold zVh
 show (zLz (n + 3) (n + 3) 0 [x, y] 2 0).bind _ = _
 rw [key]
 by_cases h : x = 0
 ·rw [vH8 h, if_pos h]
  by_cases h2 : y = 0
  ·rw [vH8 h2, h2]; rfl
  ·rw [vH9 h2]; rfl
 ·rw [vH9 h, if_neg h]; rfl
theorem vBo (k : Nat) (a b : Int) : zRy k a b = some (if a < b then -1 else if a > b then 1 else 0) := by
 unfold zRy zT0
 have e : ∀ x : Int, decide (x = x) = true := fun x => vH8 rfl
 simp only [e, vIi, vId, vIf]
 by_cases h : a < b
 ·rw [vH8 h, if_pos h]; rfl
 ·rw [vH9 h, if_neg h]
  by_cases h2 : a > b
  ·rw [vH8 h2, if_pos h2]; rfl
  ·rw [vH9 h2, if_neg h2]; rfl
theorem yEo {k : Nat} (hk : 3 ≤ k) (q p : zB) : ∃ x, zJh k q.1 q.2.1 q.2.2.1 q.2.2.2.1 q.2.2.2.2.1 q.2.2.2.2.2.1 q.2.2.2.2.2.2 p.1 p.2.1 p.2.2.1 p.2.2.2.1 p.2.2.2.2.1 p.2.2.2.2.2.1 p.2.2.2.2.2.2 = some x ∧ decide (x ≤ 0) = leP q p ∧ decide (x < 0) = ltP q p := by
 obtain ⟨n, rfl⟩ : ∃ n, k = n + 3 := ⟨k - 3, by omega⟩
 unfold zJh
 simp only [vBo, vId, yRj]
 refine ⟨_, rfl, ?_, ?_⟩
 ·unfold leP
  rcases Int.lt_trichotomy q.2.1 p.2.1 with h | h | h
  ·simp [h]
  ·rcases Int.lt_trichotomy q.2.2.2.2.1 p.2.2.2.2.1 with g | g | g
   ·simp [h, g, Int.le_of_lt g]
   ·simp [h, g]
   ·have g1 : ¬ q.2.2.2.2.1 < p.2.2.2.2.1 := by omega
    have g2 : ¬ q.2.2.2.2.1 ≤ p.2.2.2.2.1 := by omega
    simp [h, g1, g2, g]
  ·have h1 : ¬ q.2.1 < p.2.1 := by omega
   have h2 : ¬ q.2.1 = p.2.1 := by omega
   simp [h1, h2, h]
 ·unfold ltP
  rcases Int.lt_trichotomy q.2.1 p.2.1 with h | h | h
  ·simp [h]
  ·rcases Int.lt_trichotomy q.2.2.2.2.1 p.2.2.2.2.1 with g | g | g
   ·simp [h, g]
   ·simp [h, g]
   ·have g1 : ¬ q.2.2.2.2.1 < p.2.2.2.2.1 := by omega
    simp [h, g1, g]
  ·have h1 : ¬ q.2.1 < p.2.1 := by omega
   have h2 : ¬ q.2.1 = p.2.1 := by omega
   simp [h1, h2, h]
def zPr (ok : Nat → Bool) : Nat → Nat → Nat
 | 0, i => i
 | c + 1, i => bif ok i then zPr ok c (i + 1) else i
theorem qDv {X : Type} {L : Nat → Int → Option X} {N : Nat} (ok : Nat → Bool) (e : Nat → X) (hend : ∀ n, L (n + 1) (N : Int) = some (e N))
  (hstep : ∀ n i, i < N → L (n + 1) (i : Int) = bif ok i then L n ((i + 1 : Nat) : Int) else some (e i)) : ∀ c i n, i + c = N → c < n → L n (i : Int) = some (e (zPr ok c i))
 | 0, i, n, h, hn => by
  obtain ⟨n, rfl⟩ : ∃ m, n = m + 1 := ⟨n - 1, by omega⟩
  have : i = N := by omega
  subst this
  exact hend n
 | c + 1, i, n, h, hn => by
  obtain ⟨n, rfl⟩ : ∃ m, n = m + 1 := ⟨n - 1, by omega⟩
  rw [hstep n i (by omega)]
  unfold zPr
  cases ok i with
  | false => rfl
  | true => exact qDv ok e hend hstep c (i + 1) n (by omega) (by omega)
theorem qHl {α : Type} (f : α → Bool) (l : List α) (d : α) : ∀ c i, i + c = l.length → zPr (fun x => f (l.getD x d)) c i = i + ((l.drop i).takeWhile f).length
 | 0, i, h => by
  rw [List.drop_eq_nil_of_le (by omega)]
  rfl
 | c + 1, i, h => by
  rw [List.drop_eq_getElem_cons (show i < l.length by omega)]
  unfold zPr
  have e : l.getD i d = l[i] := by rw [List.getD_eq_getElem?_getD, List.getElem?_eq_getElem (by omega)]; rfl
  rw [e]
  cases hf : f l[i] with
  | false => rw [List.takeWhile_cons_of_neg (by simp [hf])]; rfl
  | true =>
   rw [List.takeWhile_cons_of_pos hf, vIe, qHl f l d c (i + 1) (by omega), List.length_cons]
   omega
theorem zWr {α : Type} (f : α → Bool) (l : List α) : l.take (l.takeWhile f).length = l.takeWhile f ∧ l.drop (l.takeWhile f).length = l.dropWhile f := by
 have e := List.takeWhile_append_dropWhile (p := f) (l := l)
 have h1 : (l.takeWhile f ++ l.dropWhile f).take (l.takeWhile f).length = l.takeWhile f := List.take_left
 have h2 : (l.takeWhile f ++ l.dropWhile f).drop (l.takeWhile f).length = l.dropWhile f := List.drop_left
 rw [e] at h1 h2
 exact ⟨h1, h2⟩
theorem yLw {α : Type} (f : α → Bool) (l : List α) : (l.takeWhile f).length ≤ l.length := (List.takeWhile_sublist f).length_le
theorem qKp {α : Type} {b : Nat} (f : α → Bool) (l : List α) (p : α) (hl : l.length ≤ 1000) (hb : b ≤ 1000) : ins b l (((l.takeWhile f).length : Nat) : Int) [p] = some (l.takeWhile f ++ (p :: l.dropWhile f)) := by
 unfold ins
 have h := yLw f l
 have hm : (l.length + 1) * b ≤ 1001 * 1000 := Nat.mul_le_mul (by omega) hb
 rw [vH8 (show (0 : Int) ≤ ((l.takeWhile f).length : Int) by omega), vH8 (show ((l.takeWhile f).length : Int) ≤ (l.length : Int) by omega), wA (show (l.length + 1) * b ≤ 140737488355328 by omega) (by omega), vIg, (zWr f l).1, (zWr f l).2]
 rfl
def zFn (l : List zB) (p : zB) : List zB := l.takeWhile (fun q => leP q p) ++ (p :: l.dropWhile (fun q => leP q p))
def zX6 (l : List zB) (p : zB) : List zB := l.takeWhile (fun q => ltP q p) ++ (p :: l.dropWhile (fun q => ltP q p))
theorem yAn {k : Nat} {l : List zB} (hl : yT l) : zGl k l = some l := by
 unfold yT at hl
 unfold zGl
 rw [wA (by omega) (by omega)]
 rfl
theorem yT4 {k : Nat} (hk : 3 ≤ k) (l : List zB) (hl : yT l) (hkl : l.length < k) (p : zB) : zJz k k l 0 p = some (l, (((l.takeWhile (fun q => leP q p)).length : Nat) : Int), p) := by
 unfold yT at hl
 have := qDv (L := fun n i => zJz k n l i p) (N := l.length) (fun x => leP (l.getD x pd) p) (fun i => (l, (i : Int), p)) (fun n => by
  show zLc k _ l l.length p = _
  unfold zLc
  simp only [qB, vH9 (Nat.lt_irrefl _), vIf]) (fun n i hi => by
  show zLc k _ l i p = _
  unfold zLc
  obtain ⟨x, h1, h2, _⟩ := yEo hk (l.getD i pd) p
  simp only [pd] at h1
  simp only [qT, qB, vIg, vH8 hi, vIe, h1, vId, h2, qX hi (show l.length < 9223372036854775808 by omega)]
  cases leP (l.getD i pd) p <;> rfl) l.length 0 k (by omega) hkl
 have e : ((0 : Nat) : Int) = 0 := rfl
 rw [e] at this
 show zJz k k l 0 p = _
 rw [this, qHl (fun q => leP q p) l pd l.length 0 (by omega), List.drop_zero, Nat.zero_add]
theorem qI3 {k : Nat} {l : List zB} (hk : 3 ≤ k) (hkl : l.length < k) (hl : yT l) (p : zB) :
  zF9 k l p = some (bif (wK l p.1).isSome then (l, 6) else bif decide (40 ≤ l.length) then (l, 3) else (zFn l p, 0)) := by
 have hl' := hl
 unfold yT at hl
 unfold zF9
 rw [zRp hkl (by omega)]
 unfold zHv
 cases hp : wK l p.1 with
 | some x =>
  have e1 : decide ((x : Int) ≥ 0) = true := vH8 (by omega)
  simp only [vId, e1, vIe, Option.isSome_some]
 | none =>
  have e1 : decide ((-1 : Int) ≥ 0) = false := rfl
  simp only [vId, e1, vIf, Option.isSome_none]
  by_cases h : 40 ≤ l.length
  ·rw [vH8 h, vH8 (show (l.length : Int) ≥ 40 by omega)]; rfl
  ·rw [vH9 h, vH9 (show ¬ (l.length : Int) ≥ 40 by omega)]
   simp only [vIf, yT4 hk l hl' hkl, vId, yAn hl', zZc]
   rw [qKp _ l p hl (by decide)]
   rfl
theorem qJ1 {l : List zB} {x : Nat} (h : yT l) : yT (vA l x) := by
 unfold yT at *
 have := (zFd l x).length_le
 omega
def zRg (l : List zB) (id : Int) : List zB := match wK l id with | some x => vA l x | none => l
theorem qVn {l : List zB} {id : Int} (hd : qS l) : wK (zRg l id) id = none := by
 cases h : wK (zRg l id) id with
 | none => rfl
 | some y =>
  exfalso
  obtain ⟨h1, h2⟩ := zDh h
  unfold zRg at h h1 h2
  cases hp : wK l id with
  | none =>
   rw [hp] at h
   rw [hp] at h; cases h
  | some x =>
   rw [hp] at h1 h2
   obtain ⟨h3, h4⟩ := zDh hp
   have hm := zAa (d := pd) h1
   have e := zR2 l x pd h3
   unfold qS at hd
   rw [e] at hd
   have hd2 := List.pairwise_append.1 hd
   have hd3 := List.pairwise_cons.1 hd2.2.1
   simp only at h1 h2 hm
   unfold vA at hm
   rcases List.mem_append.1 hm with hm | hm
   ·exact hd2.2.2 _ hm _ (List.mem_cons_self ..) (h2.trans h4.symm)
   ·exact hd3.1 _ hm (h4.trans h2.symm)
theorem yRn {k : Nat} {l : List zB} (hk : 3 ≤ k) (hkl : l.length < k) (hl : yT l) (hd : qS l) (h40 : l.length ≤ 40) {id : Int} {x : Nat} (hx : wK l id = some x) (c : Int) :
  zLm k l id c = some (zFn (vA l x) ((l.getD x pd).1, (l.getD x pd).2.1, (l.getD x pd).2.2.1, (l.getD x pd).2.2.2.1, c, (l.getD x pd).2.2.2.2.2.1, (l.getD x pd).2.2.2.2.2.2), 0) := by
 have hx1 := zDh hx
 have hw := qVn (id := id) hd
 unfold zRg at hw
 rw [hx] at hw
 have hlen := zDb hx1.1
 unfold zLm
 rw [zHr hkl hl]
 unfold zDn
 rw [hx]
 simp only [vId, decide_true, vIi, vIf]
 rw [qI3 hk (by omega) (qJ1 hl)]
 simp only [hx1.2, hw, Option.isSome_none, vIf, vH9 (show ¬ 40 ≤ (vA l x).length by omega), vId]
theorem vHa {k : Nat} {l : List zB} (hk : 3 ≤ k) (hkl : l.length < k) (hl : yT l) (hd : qS l) (h40 : l.length ≤ 40) {id : Int} {x : Nat} (hx : wK l id = some x) :
  zJf k l id = some (zFn (vA l x) (l.getD x pd), 0) := by
 have hx1 := zDh hx
 have hw := qVn (id := id) hd
 unfold zRg at hw
 rw [hx] at hw
 have hlen := zDb hx1.1
 unfold zJf
 rw [zHr hkl hl]
 unfold zDn
 rw [hx]
 simp only [vId, decide_true, vIi, vIf]
 rw [qI3 hk (by omega) (qJ1 hl)]
 simp only [hx1.2, hw, Option.isSome_none, vIf, vH9 (show ¬ 40 ≤ (vA l x).length by omega), vId]
 simp only [zN7]
 rw [← hx1.2]
theorem yO7 {k : Nat} (hk : 3 ≤ k) (l : List zB) (hl : yT l) (hkl : l.length < k) (p : zB) : zNg k k 0 l p = some ((((l.takeWhile (fun q => ltP q p)).length : Nat) : Int), l, p) := by
 unfold yT at hl
 have := qDv (L := fun n i => zNg k n i l p) (N := l.length) (fun x => ltP (l.getD x pd) p) (fun i => ((i : Int), l, p)) (fun n => by
  show zKf k _ l.length l p = _
  unfold zKf
  simp only [qB, vH9 (Nat.lt_irrefl _), vIf]) (fun n i hi => by
  show zKf k _ i l p = _
  unfold zKf
  obtain ⟨x, h1, _, h2⟩ := yEo hk (l.getD i pd) p
  simp only [pd] at h1
  simp only [qT, qB, vIg, vH8 hi, vIe, h1, vId, h2, qX hi (show l.length < 9223372036854775808 by omega)]
  cases ltP (l.getD i pd) p <;> rfl) l.length 0 k (by omega) hkl
 have e : ((0 : Nat) : Int) = 0 := rfl
 rw [e] at this
 show zNg k k 0 l p = _
 rw [this, qHl (fun q => ltP q p) l pd l.length 0 (by omega), List.drop_zero, Nat.zero_add]
theorem vHw {k : Nat} {l : List zB} (hk : 3 ≤ k) (hkl : l.length < k) (hl : yT l) {id : Int} {x : Nat} (hx : wK l id = some x) :
  zK7 k l id = some (zX6 (vA l x) (l.getD x pd), 0) := by
 have hl' := hl
 unfold yT at hl
 have hx1 := zDh hx
 have hlen := zDb hx1.1
 have e1 : decide ((x : Int) < 0) = false := vH9 (by omega)
 unfold zK7 qKg
 rw [zRp hkl (by omega)]
 unfold zHv
 rw [hx]
 simp only [vId, e1, vIf, yAn hl', qX hx1.1 (show l.length < 9223372036854775808 by omega), yAt k hx1.1 hl', qT, vH8 hx1.1, vIe, vIg]
 have e0 : decide ((0 : Int) = 0) = true := rfl
 simp only [zB6, zN7, e0, vIi, vIf]
 rw [yO7 hk (vA l x) (qJ1 hl') (by omega)]
 simp only [vId, zZc]
 rw [qKp _ (vA l x) _ (by omega) (by decide)]
 rfl
def wG (l : List Int) (id : Int) : Nat := (l.takeWhile (fun x => decide (x < id))).length
theorem vE7 {x : Int} (h0 : 0 ≤ x) (h1 : x < 9223372036854775808) : zC (shr .u64 (IntKind.wrap .u64 (zC x)) 1) = x / 2 := by
 have e1 : zC x = x := yH (by omega) h1
 have e2 : IntKind.wrap .u64 x = x := by
  unfold IntKind.wrap
  simp only [IntKind.bits, IntKind.signed, Bool.false_and, Bool.false_eq_true, if_false]
  omega
 rw [e1, e2]
 have e3 : shr .u64 x 1 = x / 2 := by
  unfold shr
  have : (2 : Int) ^ (min (1 : Int).toNat (IntKind.bits .u64)) = 2 := by decide
  rw [this, Int.fdiv_eq_ediv_of_nonneg _ (by omega)]
 rw [e3]
 exact yH (by omega) (by omega)
theorem yT6 (k : Nat) (a b : Int) : zS7 k a b = some (decide (a < b)) := by
 unfold zS7 zUe
 simp only [decide_true, vIi, vId, vIf]
theorem qJa {k : Nat} {l : List Int} {id : Int} (hl : l.length ≤ 1000) {c : Nat} (hc : c ≤ l.length) (h1 : ∀ x, x < c → l.getD x 0 < id) (h2 : ∀ x, c ≤ x → x < l.length → id ≤ l.getD x 0) (s6 : Int) :
  ∀ (n i j : Nat), i ≤ c → c ≤ j → j ≤ l.length → j - i < n → zPo k n l id s6 i j = some (l, id, s6, (c : Int))
 | 0, _, _, _, _, _, h => absurd h (Nat.not_lt_zero _)
 | n + 1, i, j, hi, hj, hjl, hn => by
  show zYd k (zPo k n) l id s6 i j = _
  unfold zYd
  rw [qB]
  by_cases hij : i < j
  ·have hh : zC (shr .u64 (IntKind.wrap .u64 (zC ((i : Int) + (j : Int)))) 1) = (((i + j) / 2 : Nat) : Int) := by
    rw [vE7 (by omega) (by omega)]; omega
   have hm : (i + j) / 2 < l.length := by omega
   rw [vH8 hij, vIe, hh, qT, vH8 hm, vIe, yT6]
   simp only [vId, vIg]
   by_cases hlt : (i + j) / 2 < c
   ·rw [vH8 (h1 _ hlt), vIe, qX hm (by omega)]
    exact qJa hl hc h1 h2 s6 n _ j (by omega) hj hjl (by omega)
   ·have := h2 _ (Nat.not_lt.1 hlt) hm
    rw [vH9 (show ¬ l.getD ((i + j) / 2) 0 < id by omega), vIf]
    exact qJa hl hc h1 h2 s6 n i _ hi (by omega) (by omega) (by omega)
  ·rw [vH9 hij, vIf]
   have : i = c := by omega
   rw [this]
theorem vCo {k : Nat} {l : List Int} {id : Int} (hkl : l.length < k) (hl : l.length ≤ 1000) {c : Nat} (hc : c ≤ l.length) (h1 : ∀ x, x < c → l.getD x 0 < id) (h2 : ∀ x, c ≤ x → x < l.length → id ≤ l.getD x 0) :
  zKx k l id = some ((c : Int), decide (c < l.length) && decide (l.getD c 0 = id)) := by
 unfold zKx
 have := qJa (k := k) hl hc h1 h2 (l.length : Int) k 0 l.length (by omega) hc (Nat.le_refl _) (by omega)
 rw [show ((0 : Nat) : Int) = 0 from rfl] at this
 rw [this]
 simp only [vId, qB, qT, vIg]
 by_cases h : c < l.length
 ·simp only [vH8 h, vIe, Bool.true_and]
  by_cases h3 : l.getD c 0 = id
  ·rw [vH8 h3]; rfl
  ·rw [vH9 h3]
   unfold zY9
   simp only [decide_true, vIf, vId, vIi]
 ·simp only [vH9 h, vIf, Bool.false_and]
def Asc (l : List Int) : Prop := List.Pairwise (fun a b => a < b) l
theorem yEi {l : List Int} {id : Int} : ∀ x, x < wG l id → l.getD x 0 < id := by
 intro x hx
 unfold wG at hx
 have h := zWr (fun x => decide (x < id)) l
 have e : l.getD x 0 = (l.takeWhile (fun x => decide (x < id))).getD x 0 := by
  rw [← h.1, List.getD_eq_getElem?_getD, List.getD_eq_getElem?_getD, List.getElem?_take, if_pos hx]
 rw [e]
 have hm := zAa (d := (0 : Int)) hx
 have := List.all_eq_true.1 (List.all_takeWhile (p := fun x => decide (x < id)) (l := l)) _ hm
 simpa using this
theorem qU7 {l : List Int} (ha : Asc l) {id : Int} : ∀ x, wG l id ≤ x → x < l.length → id ≤ l.getD x 0 := by
 intro x hx hl
 have hi : wG l id < l.length := by omega
 have h := zWr (fun x => decide (x < id)) l
 have h0 : ¬ l.getD (wG l id) 0 < id := by
  have hd : l.drop (wG l id) = l[wG l id] :: l.drop (wG l id + 1) := List.drop_eq_getElem_cons hi
  have h2 := h.2
  unfold wG at hd
  rw [h2] at hd
  have hne : l.dropWhile (fun x => decide (x < id)) ≠ [] := by rw [hd]; simp
  have := List.head_dropWhile_not (fun x => decide (x < id)) hne
  have e : (l.dropWhile (fun x => decide (x < id))).head hne = l[wG l id] := by
   unfold wG
   simp only [hd, List.head_cons]
  rw [e] at this
  rw [List.getD_eq_getElem?_getD, List.getElem?_eq_getElem hi]
  simpa using this
 by_cases e : x = wG l id
 ·rw [e]; omega
 ·have := List.pairwise_iff_getElem.1 ha (wG l id) x hi hl (by omega)
  rw [List.getD_eq_getElem?_getD, List.getElem?_eq_getElem hl]
  rw [List.getD_eq_getElem?_getD, List.getElem?_eq_getElem hi] at h0
  simp only [Option.getD_some] at h0 ⊢
  omega
theorem ySg {l : List Int} (ha : Asc l) (id : Int) : (decide (wG l id < l.length) && decide (l.getD (wG l id) 0 = id)) = decide (id ∈ l) := by
 by_cases hm : id ∈ l
 ·obtain ⟨x, hx, e⟩ := List.getElem_of_mem hm
  have e' : l.getD x 0 = id := by rw [List.getD_eq_getElem?_getD, List.getElem?_eq_getElem hx]; exact e
  have h1 : ¬ x < wG l id := fun h => by have := yEi x h; omega
  have h3 : wG l id < l.length := by omega
  have h4 : ¬ wG l id < x := fun h => by
   have g1 := qU7 ha (id := id) (wG l id) (Nat.le_refl _) h3
   have g2 := List.pairwise_iff_getElem.1 ha (wG l id) x h3 hx h
   rw [List.getD_eq_getElem?_getD, List.getElem?_eq_getElem h3] at g1
   simp only [Option.getD_some] at g1
   omega
  have h5 : wG l id = x := by omega
  rw [vH8 hm, vH8 h3, h5, vH8 e']; rfl
 ·rw [vH9 hm]
  by_cases h : wG l id < l.length
  ·rw [vH9 (show ¬ l.getD (wG l id) 0 = id from fun e => hm (e ▸ zAa h)), Bool.and_false]
  ·rw [vH9 h]; rfl
def zHz (l : List Int) (id : Int) : List Int := l.takeWhile (fun x => decide (x < id)) ++ (id :: l.dropWhile (fun x => decide (x < id)))
theorem yP7 {k : Nat} {l : List Int} (hkl : l.length < k) (hl : l.length ≤ 1000) (ha : Asc l) (id : Int) : zKx k l id = some ((wG l id : Int), decide (id ∈ l)) := by
 rw [vCo hkl hl (yLw _ l) yEi (qU7 ha)]
 show some ((wG l id : Int), decide (wG l id < l.length) && decide (l.getD (wG l id) 0 = id)) = _
 rw [ySg ha]
theorem vA2 {k : Nat} {l : List Int} (hkl : l.length < k) (hl : l.length ≤ 1000) (ha : Asc l) (id : Int) :
  zLk k l id = some (bif decide (id ∈ l) then (l, 6) else bif decide (200 ≤ l.length) then (l, 3) else (zHz l id, 0)) := by
 unfold zLk
 rw [yP7 hkl hl ha]
 simp only [vId]
 by_cases hm : id ∈ l
 ·rw [vH8 hm]; rfl
 ·rw [vH9 hm]
  simp only [vIf]
  by_cases h : 200 ≤ l.length
  ·rw [vH8 h, vH8 (show (l.length : Int) ≥ 200 by omega)]; rfl
  ·rw [vH9 h, vH9 (show ¬ (l.length : Int) ≥ 200 by omega)]
   have e2 : zDo k l = some l := by
    unfold zDo
    rw [wA (by omega) (by omega)]
    rfl
   simp only [vIf, e2, vId, yCl]
   unfold wG
   rw [qKp _ l id hl (by decide)]
   rfl
def zBh (l : List Int) : Int := zS (fun x => x) l
def zMv (x : Int) : Bool := decide (-9223372036854775808 ≤ x) && decide (x < 9223372036854775808)
theorem qSj (x : Int) : shr .i64 x 63 = x / 9223372036854775808 := by
 show x.fdiv (2 ^ (min 63 64)) = _
 rw [Int.fdiv_eq_ediv_of_nonneg _ (by decide)]
 rfl
theorem zDy (x : Int) : IntKind.wrap .u64 x = x % 18446744073709551616 := by
 unfold IntKind.wrap
 simp only [IntKind.bits, IntKind.signed, Bool.false_and]
 rfl
theorem vFo {x : Int} (h : 0 ≤ x ∧ x < 18446744073709551616) : zC x = if x < 9223372036854775808 then x else x - 18446744073709551616 := by
 unfold zC IntKind.wrap
 simp only [IntKind.bits, IntKind.signed, Bool.true_and]
 by_cases c : x % 2 ^ 64 ≥ 2 ^ (64 - 1)
 ·rw [if_pos (by simpa using c)]
  split <;> omega
 ·rw [if_neg (by simpa using c)]
  split <;> omega
theorem yT5 (l : List Int) (i : Nat) (hi : i < l.length) : zBh (l.take (i + 1)) = zBh (l.take i) + l.getD i 0 := by
 have : l.take (i + 1) = l.take i ++ [l.getD i 0] := by
  rw [List.take_add_one, List.getD_eq_getElem?_getD, List.getElem?_eq_getElem hi]
  rfl
 unfold zBh
 rw [this, zBt]
 simp [zS]
theorem vG5 {k : Nat} {l : List Int} (hk : l.length < k) (hl : l.length ≤ 1000000) (hw : ∀ i, i < l.length → -9223372036854775808 ≤ l.getD i 0 ∧ l.getD i 0 < 9223372036854775808) :
  zP9 k l = some (bif zMv (zBh l) then (zBh l, true) else (0, false)) := by
 obtain ⟨s', g1, g2, g3, g4⟩ := wZ (L := fun n i (s : Int × Int) => zI9 k n s.1 s.2 l (l.length : Int) i) (N := l.length) (fun s => (s.1, s.2)) (fun i s => (0 ≤ s.2 ∧ s.2 < 18446744073709551616) ∧ s.1 * 18446744073709551616 + s.2 = zBh (l.take i) ∧ (-(i : Int) ≤ s.1 ∧ s.1 ≤ i)) (fun n s _ => by
  show zLr k _ s.1 s.2 l l.length l.length = _
  unfold zLr
  simp only [qB, vH9 (Nat.lt_irrefl _), vIf]) (fun n i s hi hs => by
  obtain ⟨h, lo⟩ := s
  obtain ⟨⟨h1, h2⟩, h3, h4⟩ := hs
  simp only at h1 h2 h3 h4
  show ∃ s', zLr k _ h lo l l.length i = _ ∧ _
  unfold zLr zIr
  have hb := hw i hi
  have hsn := yT5 l i hi
  obtain ⟨v, hv⟩ : ∃ v, l.getD i 0 = v := ⟨_, rfl⟩
  rw [hv] at hb hsn
  simp only [qB, qT, vIg, vH8 hi, vIe, hv, zDy, qSj, decide_true, vId, qX hi (show l.length < 9223372036854775808 by omega)]
  obtain ⟨u, hu⟩ : ∃ u, v % 18446744073709551616 = u := ⟨_, rfl⟩
  rw [hu]
  obtain ⟨q, hq⟩ : ∃ q, v / 9223372036854775808 = q := ⟨_, rfl⟩
  rw [hq]
  have hu' : u = v - q * 18446744073709551616 := by omega
  have hq' : q = 0 ∨ q = -1 := by omega
  obtain ⟨a, ha⟩ : ∃ a : Nat, lo.toNat + u.toNat + 0 = a := ⟨_, rfl⟩
  rw [ha]
  have ha' : (a : Int) = lo + u := by omega
  obtain ⟨c, hc⟩ : ∃ c : Nat, a / 18446744073709551616 = c := ⟨_, rfl⟩
  obtain ⟨m, hm⟩ : ∃ c : Nat, a % 18446744073709551616 = c := ⟨_, rfl⟩
  rw [hc, hm]
  have hcm : a = c * 18446744073709551616 + m := by omega
  have hm' : m < 18446744073709551616 := by omega
  have hc' : c ≤ 1 := by omega
  have e1 : zC (Int.ofNat c) = (c : Int) := yH (by show (_ : Int) ≤ ((c : Nat) : Int); omega) (by show ((c : Nat) : Int) < _; omega)
  have e2 : zC (q + (c : Int)) = q + c := yH (by omega) (by omega)
  have e3 : zC (h + (q + (c : Int))) = h + (q + c) := yH (by omega) (by omega)
  rw [e1, e2, e3]
  refine ⟨(h + (q + c), (m : Int)), rfl, ⟨by show (0 : Int) ≤ (m : Int); omega, by show (m : Int) < _; omega⟩, ?_, ?_⟩
  ·rw [hsn]
   show (h + (q + c)) * 18446744073709551616 + (m : Int) = _
   omega
  ·show -((i + 1 : Nat) : Int) ≤ h + (q + c) ∧ h + (q + c) ≤ ((i + 1 : Nat) : Int)
   omega) (s := (0, 0)) hk ⟨⟨by show (0 : Int) ≤ 0; omega, by show (0 : Int) < _; omega⟩, rfl, by show -((0 : Nat) : Int) ≤ 0; omega, by show (0 : Int) ≤ ((0 : Nat) : Int); omega⟩
 have g1' : zI9 k k 0 0 l (l.length : Int) 0 = some (s'.1, s'.2) := g1
 rw [List.take_length] at g3
 unfold zP9
 rw [g1']
 simp only [vId, qSj]
 rw [vFo g2]
 by_cases c : zMv (zBh l) = true
 ·have c' : -9223372036854775808 ≤ zBh l ∧ zBh l < 9223372036854775808 := by simpa [zMv] using c
  rw [c]
  by_cases d : s'.2 < 9223372036854775808
  ·rw [if_pos d, vH8 (show s'.1 = s'.2 / 9223372036854775808 by omega)]
   simp only [vIi, vIf, vIe]
   rw [show s'.2 = zBh l by omega]
  ·rw [if_neg d, vH8 (show s'.1 = (s'.2 - 18446744073709551616) / 9223372036854775808 by omega)]
   simp only [vIi, vIf, vIe]
   rw [show s'.2 - 18446744073709551616 = zBh l by omega]
 ·have c' : ¬ (-9223372036854775808 ≤ zBh l ∧ zBh l < 9223372036854775808) := by simpa [zMv] using c
  rw [Bool.not_eq_true] at c
  rw [c]
  by_cases d : s'.2 < 9223372036854775808
  ·rw [if_pos d, vH9 (show ¬ s'.1 = s'.2 / 9223372036854775808 by omega)]
   rfl
  ·rw [if_neg d, vH9 (show ¬ s'.1 = (s'.2 - 18446744073709551616) / 9223372036854775808 by omega)]
   rfl
theorem qBk {x : Int} (h : 0 ≤ x) : zAm .u64 x 4294967295 = x % 4294967296 := by
 obtain ⟨n, rfl⟩ := Int.eq_ofNat_of_zero_le h
 unfold zAm zIk
 rw [zDy]
 have e1 : (BitVec.ofInt IntKind.u64.bits (n : Int) &&& BitVec.ofInt IntKind.u64.bits 4294967295).toNat = n % 4294967296 := by
  rw [BitVec.toNat_and, BitVec.toNat_ofInt, BitVec.toNat_ofInt]
  have e2 : ((4294967295 : Int) % ((2 ^ IntKind.u64.bits : Nat) : Int)).toNat = 2 ^ 32 - 1 := by decide
  rw [e2, Nat.and_two_pow_sub_one_eq_mod]
  have e3 : ((n : Int) % ((2 ^ IntKind.u64.bits : Nat) : Int)).toNat = n % 18446744073709551616 := by
   show ((n : Int) % ((18446744073709551616 : Nat) : Int)).toNat = _
   omega
  rw [e3]
  show n % 18446744073709551616 % 4294967296 = _
  omega
 rw [e1]
 omega
theorem yVr (x : Int) : shr .u64 x 32 = x / 4294967296 := by
 show x.fdiv (2 ^ (min 32 64)) = _
 rw [Int.fdiv_eq_ediv_of_nonneg _ (by decide)]
 rfl
theorem yWb {a1 a0 b1 b0 : Int} : (a1 * 4294967296 + a0) * (b1 * 4294967296 + b0) = a1 * b1 * 18446744073709551616 + (a1 * b0 + a0 * b1) * 4294967296 + a0 * b0 := by
 rw [Int.add_mul, Int.mul_add, Int.mul_add]
 have e1 : a1 * 4294967296 * (b1 * 4294967296) = a1 * b1 * 18446744073709551616 := by
  rw [Int.mul_assoc, ← Int.mul_assoc 4294967296 b1, Int.mul_comm 4294967296 b1, Int.mul_assoc b1, ← Int.mul_assoc]; rfl
 have e2 : a1 * 4294967296 * b0 = a1 * b0 * 4294967296 := by rw [Int.mul_assoc, Int.mul_comm 4294967296 b0, ← Int.mul_assoc]
 have e3 : a0 * (b1 * 4294967296) = a0 * b1 * 4294967296 := by rw [← Int.mul_assoc]
 rw [e1, e2, e3]
 omega
theorem zFq {a b A B : Int} (h0 : 0 ≤ a) (h1 : a ≤ A) (g0 : 0 ≤ b) (g1 : b ≤ B) : 0 ≤ a * b ∧ a * b ≤ A * B :=
 ⟨Int.mul_nonneg h0 g0, Int.mul_le_mul h1 g1 g0 (by omega)⟩
theorem qYc (k : Nat) {x y : Int} (hx : 0 ≤ x ∧ x < 18446744073709551616) (hy : 0 ≤ y ∧ y < 18446744073709551616) : zP8 k x y = some (x * y / 18446744073709551616, x * y % 18446744073709551616) := by
 unfold zP8
 simp only [yVr, qBk hx.1, qBk hy.1, zDy]
 obtain ⟨a1, h1⟩ : ∃ a, x / 4294967296 = a := ⟨_, rfl⟩
 obtain ⟨a0, h0⟩ : ∃ a, x % 4294967296 = a := ⟨_, rfl⟩
 obtain ⟨b1, g1⟩ : ∃ a, y / 4294967296 = a := ⟨_, rfl⟩
 obtain ⟨b0, g0⟩ : ∃ a, y % 4294967296 = a := ⟨_, rfl⟩
 have hxe : x = a1 * 4294967296 + a0 := by omega
 have hye : y = b1 * 4294967296 + b0 := by omega
 rw [h1, h0, g1, g0]
 have ha1 : 0 ≤ a1 ∧ a1 ≤ 4294967295 := by omega
 have ha0 : 0 ≤ a0 ∧ a0 ≤ 4294967295 := by omega
 have hb1 : 0 ≤ b1 ∧ b1 ≤ 4294967295 := by omega
 have hb0 : 0 ≤ b0 ∧ b0 ≤ 4294967295 := by omega
 have p11 := zFq ha1.1 ha1.2 hb1.1 hb1.2
 have p10 := zFq ha1.1 ha1.2 hb0.1 hb0.2
 have p01 := zFq ha0.1 ha0.2 hb1.1 hb1.2
 have p00 := zFq ha0.1 ha0.2 hb0.1 hb0.2
 have hxy : x * y = a1 * b1 * 18446744073709551616 + (a1 * b0 + a0 * b1) * 4294967296 + a0 * b0 := by rw [hxe, hye, yWb]
 rw [hxy]
 generalize a1 * b1 = u at *
 generalize a1 * b0 = v at *
 generalize a0 * b1 = s at *
 generalize a0 * b0 = t at *
 have c1 : (t % 18446744073709551616) = t := by omega
 have c2 : (v % 18446744073709551616 + t / 4294967296) % 18446744073709551616 = v + t / 4294967296 := by omega
 rw [c1, c2]
 have hband : zAm .u64 (v + t / 4294967296) 4294967295 = (v + t / 4294967296) % 4294967296 := qBk (by omega)
 rw [hband]
 refine congrArg some (Prod.ext ?_ ?_)
 ·show _ % _ = _ / _
  omega
 ·rfl
theorem yVc (k : Nat) {x : Int} (hx : 0 ≤ x ∧ x < 18446744073709551616) : zTs k 0 x 10000 = some (x / 10000, x % 10000) := by
 unfold zTs
 have e1 : decide ((10000 : Int) = 0) = false := rfl
 have e2 : decide ((10000 : Int) ≤ 0) = false := rfl
 simp only [e1, e2, decide_true, vIf, vIe, vIj, zDy]
 rw [Int.tdiv_eq_ediv_of_nonneg hx.1, Int.tmod_eq_emod_of_nonneg hx.1]
 have : x / 10000 % 18446744073709551616 = x / 10000 := by omega
 rw [this]
def zMh (price many cut : Int) : Int := price * many * (10000 - cut) / 10000
theorem ySc {p m c : Int} (hp : 0 ≤ p ∧ p ≤ 1048576) (hm : 0 ≤ m ∧ m ≤ 1099511627776) (hc : 0 ≤ c ∧ c ≤ 10000) : 0 ≤ zMh p m c ∧ zMh p m c ≤ 1152921504606846976 := by
 have h1 := zFq hp.1 hp.2 hm.1 hm.2
 have h2 := zFq h1.1 h1.2 (show 0 ≤ 10000 - c by omega) (show 10000 - c ≤ 10000 by omega)
 unfold zMh
 generalize p * m * (10000 - c) = z at *
 omega
theorem yOk (k : Nat) {p m c : Int} (hp : 0 ≤ p ∧ p ≤ 1048576) (hm : 0 ≤ m ∧ m ≤ 1099511627776) (hc : 0 ≤ c ∧ c ≤ 10000) : zWi k p m c = some (zMh p m c, true) := by
 unfold zWi qCf
 have w1 : zC (10000 - c) = 10000 - c := yH (by omega) (by omega)
 have e1 : decide (p < 0) = false := vH9 (by omega)
 have e2 : decide (m < 0) = false := vH9 (by omega)
 have e3 : decide (c ≥ 0) = true := vH8 (by omega)
 have e4 : decide (c ≤ 10000) = true := vH8 (by omega)
 have u1 : p % 18446744073709551616 = p := by omega
 have u2 : m % 18446744073709551616 = m := by omega
 have u3 : (10000 - c) % 18446744073709551616 = 10000 - c := by omega
 have h1 := zFq hp.1 hp.2 hm.1 hm.2
 have hP : p * m / 18446744073709551616 = 0 := by omega
 have hP2 : p * m % 18446744073709551616 = p * m := by omega
 have t0 : Int.tmod 0 10000 = 0 := by simp
 have t1 : Int.tdiv 0 10000 = 0 := by simp
 rw [e1, e2, e3, e4, vIf, vIf, vIe, vId, vIi, vIf, zDy p, zDy m, u1, u2, qYc k (show 0 ≤ p ∧ p < 18446744073709551616 by omega) (show 0 ≤ m ∧ m < 18446744073709551616 by omega), vId, hP, hP2]
 dsimp only
 rw [t0, t1, yVc k (show 0 ≤ p * m ∧ p * m < 18446744073709551616 by omega), vId]
 dsimp only
 rw [w1, zDy (10000 - c), u3]
 unfold zMh
 obtain ⟨l, hl⟩ : ∃ l, 10000 - c = l := ⟨_, rfl⟩
 rw [hl]
 obtain ⟨P, hPe⟩ : ∃ P, p * m = P := ⟨_, rfl⟩
 rw [hPe] at h1 ⊢
 have hl' : 0 ≤ l ∧ l ≤ 10000 := by omega
 rw [qYc k (show 0 ≤ P / 10000 ∧ P / 10000 < 18446744073709551616 by omega) (show 0 ≤ l ∧ l < 18446744073709551616 by omega)]
 have hq := zFq (show 0 ≤ P / 10000 by omega) (show P / 10000 ≤ 115292150460684 by omega) hl'.1 hl'.2
 have hr := zFq (show 0 ≤ P % 10000 by omega) (show P % 10000 ≤ 9999 by omega) hl'.1 hl'.2
 have hsplit : P * l = P / 10000 * l * 10000 + P % 10000 * l := by
  have : P = P / 10000 * 10000 + P % 10000 := by omega
  have e : P / 10000 * l * 10000 = P / 10000 * 10000 * l := by rw [Int.mul_assoc, Int.mul_comm l, ← Int.mul_assoc]
  rw [e, ← Int.add_mul, ← this]
 rw [hsplit]
 generalize P / 10000 * l = a at *
 generalize P % 10000 * l = b at *
 have v1 : a / 18446744073709551616 = 0 := by omega
 have v2 : a % 18446744073709551616 = a := by omega
 have v3 : b % 18446744073709551616 = b := by omega
 have v4 : Int.tdiv b 10000 = b / 10000 := Int.tdiv_eq_ediv_of_nonneg hr.1
 have v5 : b / 10000 % 18446744073709551616 = b / 10000 := by omega
 have ha : zIr k a (b / 10000) 0 = some (a + b / 10000, 0) := by
  have n1 : (Int.ofNat ((a.toNat + (b / 10000).toNat + 0) % 18446744073709551616)) = a + b / 10000 := by rw [Int.ofNat_eq_natCast]; omega
  have n2 : (Int.ofNat ((a.toNat + (b / 10000).toNat + 0) / 18446744073709551616)) = 0 := by rw [Int.ofNat_eq_natCast]; omega
  unfold zIr
  rw [vH8 rfl, vIe, n1, n2]
 rw [vId]
 dsimp only
 rw [v1, v2, zDy b, v3, v4, zDy (b / 10000), v5, ha, vId]
 dsimp only
 have z1 : IntKind.wrap .u64 0 = 0 := by rw [zDy]; omega
 have z2 : IntKind.wrap .u64 (0 + 0) = 0 := by rw [zDy]; omega
 have z3 : decide ((0 : Int) > 0) = false := vH9 (by omega)
 have z4 : decide (a + b / 10000 > 9223372036854775807) = false := vH9 (by omega)
 have z5 : zC (a + b / 10000) = a + b / 10000 := yH (by omega) (by omega)
 rw [z1, z2, z3, z4, z5, vIf, vIf, vIf]
 have : (a * 10000 + b) / 10000 = a + b / 10000 := by omega
 rw [this]
abbrev zA7 := Int × Int
abbrev zI1 : zA7 := (0, 0)
def zDt (sa : List zA7) (pr h : List Int) (i : Nat) : Int := zMh (pr.getD i 0) (h.getD i 0) (sa.getD i zI1).2
def zBw (sa : List zA7) (pr h : List Int) : Int := qL (zDt sa pr h) sa.length
structure zBr (sa : List zA7) (pr h : List Int) : Prop where
 n3 : sa.length ≤ 3
 pl : pr.length = sa.length
 hl : h.length = sa.length
 cut : ∀ i, i < sa.length → 0 ≤ (sa.getD i zI1).2 ∧ (sa.getD i zI1).2 ≤ 10000
 price : ∀ i, i < sa.length → 0 ≤ pr.getD i 0 ∧ pr.getD i 0 ≤ 1048576
 hold : ∀ i, i < sa.length → 0 ≤ h.getD i 0 ∧ h.getD i 0 ≤ 1099511627776
theorem qBl {sa : List zA7} {pr h : List Int} (L : zBr sa pr h) {i : Nat} (hi : i < sa.length) : 0 ≤ zDt sa pr h i ∧ zDt sa pr h i ≤ 1152921504606846976 := ySc (L.price i hi) (L.hold i hi) (L.cut i hi)
theorem yN0 (g : Nat → Int) : ∀ n, zBh ((List.range n).map g) = qL g n
 | 0 => rfl
 | n + 1 => by
  rw [List.range_succ, List.map_append]
  unfold zBh
  rw [zBt]
  have := yN0 g n
  unfold zBh at this
  rw [this]
  show qL g n + (g n + 0) = qL g n + g n
  omega
theorem qGo {g : Nat → Int} {A : Int} : ∀ {n : Nat}, (∀ j, j < n → 0 ≤ g j ∧ g j ≤ A) → 0 ≤ qL g n ∧ qL g n ≤ n * A
 | 0, _ => by simp [qL]
 | n + 1, h => by
  have h1 := qGo (n := n) (fun j hj => h j (by omega))
  have h2 := h n (by omega)
  have h3 : ((n + 1 : Nat) : Int) * A = n * A + A := by rw [Int.natCast_add, Int.add_mul]; simp
  rw [h3]
  show 0 ≤ qL g n + g n ∧ qL g n + g n ≤ _
  omega
theorem yYl {k : Nat} {sa : List zA7} {pr h : List Int} (L : zBr sa pr h) (hk : 10 ≤ k) : zMw k k pr h sa sa.length 0 [] = some (.inl ((List.range sa.length).map (zDt sa pr h))) := by
 have hn := L.n3
 obtain ⟨s', h1, h2⟩ := wZ (L := fun n i (s : List Int) => zMw k n pr h sa sa.length i s) (N := sa.length) (fun s => .inl s) (fun i s => s = (List.range i).map (zDt sa pr h)) (fun n s _ => by
  show zLv k _ pr h sa sa.length sa.length s = _
  unfold zLv
  simp only [qB, vH9 (Nat.lt_irrefl _), vIf]) (fun n i s hi hs => by
  refine ⟨s ++ [zDt sa pr h i], ?_, ?_⟩
  ·show zLv k _ pr h sa sa.length i s = _
   unfold zLv
   have hsl : s.length ≤ 3 := by rw [hs, List.length_map, List.length_range]; omega
   have hw := yOk k (L.price i hi) (L.hold i hi) (L.cut i hi)
   simp only [qB, qT, vIg, vH8 hi, vH8 (show i < pr.length by rw [L.pl]; exact hi), vH8 (show i < h.length by rw [L.hl]; exact hi), vIe, qX hi (show sa.length < 9223372036854775808 by omega)]
   rw [hw]
   simp only [vId, vIi, vIf, wA (show (s.length + 1) * 8 ≤ 140737488355328 by omega) (show s.length + 1 ≤ 140737488355328 by omega), vIe]
   rfl
  ·rw [hs, List.range_succ, List.map_append]; rfl) (s := []) (show sa.length < k by omega) rfl
 have h1' : zMw k k pr h sa sa.length 0 [] = _ := h1
 rw [h1', h2]
theorem qX2 {k : Nat} {sa : List zA7} {pr h : List Int} (L : zBr sa pr h) (hk : 10 ≤ k) : zEc k sa pr h = some (zBw sa pr h, true) := by
 have hn := L.n3
 have hb := qGo (g := zDt sa pr h) (n := sa.length) (fun j hj => qBl L hj)
 have hm : (sa.length : Int) * 1152921504606846976 ≤ 3 * 1152921504606846976 := Int.mul_le_mul_of_nonneg_right (by omega) (by decide)
 unfold zEc
 have e1 : decide ((pr.length : Int) = (sa.length : Int)) = true := vH8 (by rw [L.pl])
 have e2 : decide ((h.length : Int) = (sa.length : Int)) = true := vH8 (by rw [L.hl])
 simp only [e1, e2, vIi, vIf]
 rw [yYl L hk]
 simp only [vId]
 rw [vG5 (by rw [List.length_map, List.length_range]; omega) (by rw [List.length_map, List.length_range]; omega) (fun i hi => by
  rw [List.length_map, List.length_range] at hi
  have := qBl L hi
  have e : ((List.range sa.length).map (zDt sa pr h)).getD i 0 = zDt sa pr h i := by
   rw [List.getD_eq_getElem?_getD, List.getElem?_map, List.getElem?_range hi]; rfl
  rw [e]; omega)]
 rw [yN0]
 have e3 : zMv (qL (zDt sa pr h) sa.length) = true := by
  unfold zMv
  rw [vH8 (by omega), vH8 (by omega)]; rfl
 rw [e3]
 rfl
theorem zVa {sa : List zA7} {pr h : List Int} (L : zBr sa pr h) : 0 ≤ zBw sa pr h := (qGo (g := zDt sa pr h) (n := sa.length) (fun j hj => qBl L hj)).1
theorem qXs {k : Nat} {l : List Int} (hl : l.length ≤ 1000) {i : Int} (h0 : 0 ≤ i) (h1 : i < l.length) (v : Int) : zDp k l i v = some (l.set i.toNat v) := by
 unfold zDp
 have e2 : zDo k l = some l := by
  unfold zDo
  rw [wA (by omega) (by omega)]
  rfl
 simp only [e2, vId, vH8 (show i ≥ 0 by omega), vH8 h1, vIe, zM9 h0 h1]
abbrev BT := List qK × List (List Int) × List Int × List (List Int)
def yI (B : BT) : Prop := wP B.1 B.2.1 B.2.2.1 B.2.2.2
theorem zU3 {k : Nat} (hk : 100 < k) {B : BT} (h : yI B) {l : List zB} (hl : l.length ≤ 80) :
  ∃ r, zDm k B.1 B.2.1 B.2.2.1 B.2.2.2 l = some r ∧ qNw k B.1 B.2.1 B.2.2.1 B.2.2.2 l = some r ∧ zEl B.1 B.2.1 B.2.2.1 B.2.2.2 l r := by
 obtain ⟨r, h1, h2⟩ := zXg hk h hl
 obtain ⟨r', h3, h4⟩ := yPf hk h hl
 have := h2.same h4
 subst this
 exact ⟨r, h1, h3, h2⟩
def zFx (B : BT) (l : List zB) : Bool := zL0 B.1 B.2.1 B.2.2.1 B.2.2.2 l
def zBd (k : Nat) (B : BT) (l : List zB) : Option BT := match zDm k B.1 B.2.1 B.2.2.1 B.2.2.2 l with
 | some r => bif decide (r.2.2.2.2 = 0) && zFx B l then some (r.1, r.2.1, r.2.2.1, r.2.2.2.1) else none
 | none => none
theorem zKu {k : Nat} (hk : 100 < k) {B C : BT} (h : yI B) {l : List zB} (hl : l.length ≤ 80) (hg : zBd k B l = some C) : yI C ∧ C.1.length = B.1.length := by
 obtain ⟨r, h1, h2, h3⟩ := zU3 hk h hl
 unfold zBd at hg
 rw [h1] at hg
 simp only at hg
 cases hc : decide (r.2.2.2.2 = 0) && zFx B l with
 | false =>
  rw [hc] at hg
  cases hg
 | true =>
  rw [hc] at hg
  simp only [vIe, Option.some.injEq] at hg
  subst hg
  refine ⟨(zOq h h3).2.1, ?_⟩
  have := zOq h h3
  by_cases c : vR B.1.length l
  ·obtain ⟨a', p', x, e⟩ := h3.1 c
   cases hi : isB a' B.2.1 B.2.2.1 p' with
   | false => rw [hi] at e; subst e; rfl
   | true => rw [hi] at e; subst e; exact x.al
  ·rw [h3.2 c]
def jL (k : Nat) (B : BT) : List zB → Option (zB × BT)
 | [] => none
 | p :: l => match zBd k B [p] with
  | some C => some (p, C)
  | none => jL k B l
theorem zQh {k : Nat} {B C : BT} {p : zB} : ∀ {l : List zB}, jL k B l = some (p, C) → p ∈ l ∧ zBd k B [p] = some C
 | [], h => by cases h
 | q :: l, h => by
  unfold jL at h
  cases hg : zBd k B [q] with
  | some D =>
   rw [hg] at h
   cases h
   exact ⟨List.mem_cons_self .., hg⟩
  | none =>
   rw [hg] at h
   have := zQh h
   exact ⟨List.mem_cons_of_mem _ this.1, this.2⟩
theorem vCr (k : Nat) (B : BT) {m : List zB} {i : Nat} (hi : i < m.length) : jL k B (m.drop i) = match zBd k B [m.getD i pd] with
  | some C => some (m.getD i pd, C)
  | none => jL k B (m.drop (i + 1)) := by
 rw [List.drop_eq_getElem_cons hi]
 have e : m.getD i pd = m[i] := by rw [List.getD_eq_getElem?_getD, List.getElem?_eq_getElem hi]; rfl
 rw [e]
 rfl
theorem qSq (l : List zB) (t : Int) : (wF l t).length ≤ l.length := Nat.le_trans (List.length_filter_le _ _) (List.length_filter_le _ _)
def wU (l : List zB) (id : Int) : List zB := (zDn l id).1
theorem zJd {l : List zB} {p : zB} (h : p ∈ l) : (wU l p.1).length + 1 = l.length ∧ List.Sublist (wU l p.1) l := by
 obtain ⟨x, hx⟩ := qHg h
 unfold wU zDn
 rw [hx]
 have := (zDh hx).1
 refine ⟨?_, zFd l x⟩
 show (vA l x).length + 1 = l.length
 rw [zDb this]
 omega
theorem zU4 {l : List zB} {t : Int} {p : zB} (h : p ∈ wF l t) : p ∈ l := (List.mem_filter.1 (List.mem_filter.1 h).1).1
inductive Ran (k : Nat) (t : Int) : BT → List zB → List zB → BT → List zB → Prop
 | stop {B : BT} {l : List zB} (h : jL k B (wF l t) = none) : Ran k t B l [] B l
 | step {B C D : BT} {l m done : List zB} {p : zB} (h : jL k B (wF l t) = some (p, C)) (h' : Ran k t C (wU l p.1) done D m) : Ran k t B l (p :: done) D m
theorem yFc {k : Nat} (hk : 100 < k) {B : BT} (h : yI B) {l : List zB} (hl : l.length ≤ 80) : zHq k B.1 B.2.1 B.2.2.1 B.2.2.2 l = some (zFx B l) := vG7 hk h hl
theorem yHs {k : Nat} (hk : 100 < k) {B : BT} (h : yI B) (m : List zB) (hm : m.length ≤ 1000) : ∀ c i n, i + c = m.length → c < n →
  zO2 k n m.length i B.1 B.2.1 B.2.2.1 B.2.2.2 0 0 0 0 0 0 0 m = some (match jL k B (m.drop i) with
   | some (p, C) => .inr (true, p.1, p.2.1, p.2.2.1, p.2.2.2.1, p.2.2.2.2.1, p.2.2.2.2.2.1, p.2.2.2.2.2.2, C.1, C.2.1, C.2.2.1, C.2.2.2)
   | none => .inl (B.1, B.2.1, B.2.2.1, B.2.2.2, 0, 0, 0, 0, 0, 0, 0))
 | 0, i, n, e, hn => by
  obtain ⟨n, rfl⟩ : ∃ x, n = x + 1 := ⟨n - 1, by omega⟩
  have : i = m.length := by omega
  subst this
  show zLi k _ m.length m.length B.1 B.2.1 B.2.2.1 B.2.2.2 0 0 0 0 0 0 0 m = _
  unfold zLi
  simp only [qB, vH9 (Nat.lt_irrefl _), vIf, List.drop_length]
  rfl
 | c + 1, i, n, e, hn => by
  obtain ⟨n, rfl⟩ : ∃ x, n = x + 1 := ⟨n - 1, by omega⟩
  have hi : i < m.length := by omega
  have ih := yHs hk h m hm c (i + 1) n (by omega) (by omega)
  show zLi k _ m.length i B.1 B.2.1 B.2.2.1 B.2.2.2 0 0 0 0 0 0 0 m = _
  unfold zLi
  obtain ⟨r, h1, h2, h3⟩ := zU3 hk h (l := [m.getD i pd]) (by simp)
  have hf := yFc hk h (l := [m.getD i pd]) (by simp)
  simp only [pd] at h1 hf
  simp only [qT, qX hi (show m.length < 9223372036854775808 by omega), qB, vIg, vH8 hi, vIe, hf, h1, vId]
  rw [vCr k B hi]
  unfold zBd
  simp only [pd, h1]
  cases zFx B [m.getD i (0, (0, (0, (0, (0, (0, 0))))))] with
  | false =>
   simp only [vIj, vIe, Bool.and_false, vIf]
   exact ih
  | true =>
   simp only [vIi, vIf, Bool.and_true]
   cases decide (r.2.2.2.2 = 0) with
   | false => exact ih
   | true => rfl
def qMj (B : BT) (x : Option (zB × BT)) : Int × Int × Int × Int × Int × Int × Int × (List (Int × Int × Int)) × (List (List Int)) × (List Int) × (List (List Int)) × Bool := match x with
 | some (p, C) => (p.1, p.2.1, p.2.2.1, p.2.2.2.1, p.2.2.2.2.1, p.2.2.2.2.2.1, p.2.2.2.2.2.2, C.1, C.2.1, C.2.2.1, C.2.2.2, true)
 | none => (0, 0, 0, 0, 0, 0, 0, B.1, B.2.1, B.2.2.1, B.2.2.2, false)
theorem yUk {k : Nat} (hk : 100 < k) {B : BT} (h : yI B) {l : List zB} (hkl : l.length < k) (hl : yT l) (hd : qS l) (t : Int) : zYw k B.1 B.2.1 B.2.2.1 B.2.2.2 l t = some (qMj B (jL k B (wF l t))) := by
 unfold zYw
 rw [qRs hkl hl hd]
 have hml := qSq l t
 unfold yT at hl
 have := yHs hk h (wF l t) (by omega) (wF l t).length 0 k (by omega) (by omega)
 have e : ((0 : Nat) : Int) = 0 := rfl
 rw [e, List.drop_zero] at this
 simp only [vId]
 rw [this]
 cases jL k B (wF l t) with
 | none => rfl
 | some x => rfl
theorem yMx {k : Nat} (hk : 100 < k) (t : Int) : ∀ (n : Nat) (B : BT) (l r : List zB), yI B → qS l → l.length ≤ 100 → l.length < n → r.length + l.length ≤ 1000 →
  ∃ (C : BT) (m done : List zB), zQ4 k n t l B.1 B.2.1 B.2.2.1 B.2.2.2 r = some (m, C.1, C.2.1, C.2.2.1, C.2.2.2, r ++ done) ∧ Ran k t B l done C m ∧ yI C ∧ C.1.length = B.1.length ∧ List.Sublist m l
 | 0, _, _, _, _, _, _, h, _ => absurd h (Nat.not_lt_zero _)
 | n + 1, B, l, r, hb, hd, hl, hn, hr => by
  have h1 := yUk hk hb (l := l) (by omega) (by show l.length ≤ 1000; omega) hd t
  cases hx : jL k B (wF l t) with
  | none =>
   rw [hx] at h1
   refine ⟨B, l, [], ?_, .stop hx, hb, rfl, List.Sublist.refl _⟩
   show zLp k _ t l B.1 B.2.1 B.2.2.1 B.2.2.2 r = _
   unfold zLp
   rw [h1]
   simp only [vId, qMj, vIj, vIe, List.append_nil]
  | some x =>
   obtain ⟨p, C⟩ := x
   rw [hx] at h1
   obtain ⟨hp, hg⟩ := zQh hx
   have hpl := zU4 hp
   obtain ⟨hl1, hl2⟩ := zJd hpl
   obtain ⟨hc1, hc2⟩ := zKu hk hb (by simp) hg
   obtain ⟨D, m, done, g1, g3, g4, g5, g6⟩ := yMx hk t n C (wU l p.1) (r ++ [p]) hc1 (List.Pairwise.sublist hl2 hd) (by omega) (by omega) (by rw [List.length_append]; simp; omega)
   refine ⟨D, m, p :: done, ?_, .step hx g3, g4, g5.trans hc2, g6.trans hl2⟩
   show zLp k _ t l B.1 B.2.1 B.2.2.1 B.2.2.2 r = _
   unfold zLp
   rw [h1]
   simp only [vId, qMj, vIi, vIf, zHr (show l.length < k by omega) (show yT l by show l.length ≤ 1000; omega), zGw (show r.length ≤ 1000 by omega), vIe]
   rw [List.append_cons r p done, ← g1]
   rfl
theorem yXi {k : Nat} (hk : 200 ≤ k) {B : BT} (hb : yI B) {l : List zB} (hd : qS l) (hl : l.length ≤ 100) (t : Int) :
  ∃ (C : BT) (m done : List zB), zSb k B.1 B.2.1 B.2.2.1 B.2.2.2 l t = some (C.1, C.2.1, C.2.2.1, C.2.2.2, m, done) ∧ Ran k t B l done C m ∧ yI C ∧ C.1.length = B.1.length ∧ List.Sublist m l := by
 obtain ⟨C, m, done, h1, h3⟩ := yMx (show 100 < k by omega) t k B l [] hb hd hl (by omega) (by simp; omega)
 refine ⟨C, m, done, ?_, h3⟩
 unfold zSb
 rw [h1]
 rfl
def duo (p q : zB) : Bool := decide (q.2.1 = p.2.2.1) && (decide (q.2.2.1 = p.2.1) && !decide (p.2.1 ≥ q.2.1))
def zEf (k : Nat) (B : BT) (p : zB) : List zB → Option (zB × BT)
 | [] => none
 | q :: l => match (bif duo p q then zBd k B [p, q] else none) with
  | some C => some (q, C)
  | none => zEf k B p l
def zGp (k : Nat) (B : BT) (m : List zB) : List zB → Option (zB × zB × BT)
 | [] => none
 | p :: l => match zEf k B p m with
  | some (q, C) => some (p, q, C)
  | none => zGp k B m l
theorem zZu {k : Nat} {B C : BT} {p q : zB} : ∀ {l : List zB}, zEf k B p l = some (q, C) → q ∈ l ∧ duo p q = true ∧ zBd k B [p, q] = some C
 | [], h => by cases h
 | r :: l, h => by
  unfold zEf at h
  cases hd : duo p r with
  | false =>
   rw [hd] at h
   have := zZu (l := l) h
   exact ⟨List.mem_cons_of_mem _ this.1, this.2⟩
  | true =>
   rw [hd] at h
   simp only [vIe] at h
   cases hg : zBd k B [p, r] with
   | some D =>
    rw [hg] at h
    cases h
    exact ⟨List.mem_cons_self .., hd, hg⟩
   | none =>
    rw [hg] at h
    have := zZu (l := l) h
    exact ⟨List.mem_cons_of_mem _ this.1, this.2⟩
theorem zVg {k : Nat} {B C : BT} {p q : zB} {m : List zB} : ∀ {l : List zB}, zGp k B m l = some (p, q, C) → p ∈ l ∧ q ∈ m ∧ duo p q = true ∧ zBd k B [p, q] = some C
 | [], h => by cases h
 | r :: l, h => by
  unfold zGp at h
  cases hq : zEf k B r m with
  | some x =>
   obtain ⟨y, D⟩ := x
   rw [hq] at h
   cases h
   exact ⟨List.mem_cons_self .., zZu hq⟩
  | none =>
   rw [hq] at h
   have := zVg (l := l) h
   exact ⟨List.mem_cons_of_mem _ this.1, this.2⟩
theorem qYb {α : Type} {l : List α} {i : Nat} (h : i < l.length) (d : α) : l.getD i d = l[i] := by
 rw [List.getD_eq_getElem?_getD, List.getElem?_eq_getElem h]; rfl
theorem yTf (k : Nat) (B : BT) (p : zB) {m : List zB} {i : Nat} (hi : i < m.length) : zEf k B p (m.drop i) = match (bif duo p (m.getD i pd) then zBd k B [p, m.getD i pd] else none) with
  | some C => some (m.getD i pd, C)
  | none => zEf k B p (m.drop (i + 1)) := by
 rw [List.drop_eq_getElem_cons hi, qYb hi]
 rfl
theorem yOq (k : Nat) (B : BT) (r : List zB) {m : List zB} {i : Nat} (hi : i < m.length) : zGp k B r (m.drop i) = match zEf k B (m.getD i pd) r with
  | some (q, C) => some (m.getD i pd, q, C)
  | none => zGp k B r (m.drop (i + 1)) := by
 rw [List.drop_eq_getElem_cons hi, qYb hi]
 rfl
def zAi (k : Nat) (B : BT) (l : List zB) (t : Int) : Option (zB × zB × BT) := zGp k B (wF l t) (wF l t)
theorem yZn {l : List zB} {x : Nat} {q : zB} (hx : x < l.length) (h : q ∈ l) (hne : q ≠ l.getD x pd) : q ∈ vA l x := by
 unfold vA
 have e := zR2 l x pd hx
 rw [e] at h
 rw [List.mem_append, List.mem_cons] at h
 rw [List.mem_append]
 rcases h with h | h | h
 ·exact .inl h
 ·exact absurd h hne
 ·exact .inr h
theorem qS.eq_of {l : List zB} (h : qS l) {p q : zB} (hp : p ∈ l) (hq : q ∈ l) (e : p.1 = q.1) : p = q := by
 obtain ⟨i, hi, ei⟩ := List.getElem_of_mem hp
 obtain ⟨j, hj, ej⟩ := List.getElem_of_mem hq
 have hl := List.pairwise_iff_getElem.1 h
 by_cases c : i < j
 ·exact absurd (by rw [ei, ej]; exact e) (hl i j hi hj c)
 ·by_cases c' : j < i
  ·exact absurd (by rw [ei, ej]; exact e.symm) (hl j i hj hi c')
  ·have : i = j := by omega
   subst this
   rw [← ei, ← ej]
theorem qI1 {l : List zB} {p q : zB} (hp : p ∈ l) (hq : q ∈ l) (hne : q.1 ≠ p.1) : q ∈ wU l p.1 := by
 obtain ⟨x, hx⟩ := qHg hp
 unfold wU zDn
 rw [hx]
 have := zDh hx
 exact yZn this.1 hq (fun e => hne (by rw [e]; exact this.2))
def zIo (l : List zB) (p q : zB) : List zB := wU (wU l p.1) q.1
theorem zXh {k : Nat} {B C : BT} {l : List zB} {t : Int} {p q : zB} (h : zAi k B l t = some (p, q, C)) : p ∈ l ∧ q ∈ l ∧ duo p q = true ∧ zBd k B [p, q] = some C := by
 obtain ⟨h1, h2, h3⟩ := zVg h
 exact ⟨zU4 h1, zU4 h2, h3⟩
theorem yKd {l : List zB} (hd : qS l) {p q : zB} (hp : p ∈ l) (hq : q ∈ l) (h : duo p q = true) : q.1 ≠ p.1 := by
 intro e
 have := hd.eq_of hq hp e
 subst this
 unfold duo at h
 simp at h
theorem zVx {l : List zB} (hd : qS l) {p q : zB} (hp : p ∈ l) (hq : q ∈ l) (h : duo p q = true) : (zIo l p q).length + 2 = l.length ∧ List.Sublist (zIo l p q) l := by
 obtain ⟨h1, h2⟩ := zJd hp
 obtain ⟨h3, h4⟩ := zJd (qI1 hp hq (yKd hd hp hq h))
 unfold zIo
 exact ⟨by omega, h4.trans h2⟩
inductive jN (k : Nat) (t : Int) : BT → List zB → List zB → BT → List zB → Prop
 | stop {B : BT} {l : List zB} (h : zAi k B l t = none) : jN k t B l [] B l
 | step {B C D : BT} {l m done : List zB} {p q : zB} (h : zAi k B l t = some (p, q, C)) (h' : jN k t C (zIo l p q) done D m) : jN k t B l (p :: q :: done) D m
theorem jN.length {k : Nat} {t : Int} {B C : BT} {l done m : List zB} (h : jN k t B l done C m) (hd : qS l) : done.length + m.length = l.length ∧ done.length % 2 = 0 := by
 induction h with
 | stop _ => simp
 | step h _ ih =>
  obtain ⟨hp, hq, hdu, _⟩ := zXh h
  obtain ⟨h1, h2⟩ := zVx hd hp hq hdu
  have := ih (List.Pairwise.sublist h2 hd)
  simp only [List.length_cons]
  omega
theorem jN.sub {k : Nat} {t : Int} {B C : BT} {l done m : List zB} (h : jN k t B l done C m) (hd : qS l) : List.Sublist m l := by
 induction h with
 | stop _ => exact List.Sublist.refl _
 | step h _ ih =>
  obtain ⟨hp, hq, hdu, _⟩ := zXh h
  obtain ⟨h1, h2⟩ := zVx hd hp hq hdu
  exact (ih (List.Pairwise.sublist h2 hd)).trans h2
theorem yJ8 {k : Nat} (hk : 100 < k) {B : BT} (h : yI B) (m : List zB) (hm : m.length ≤ 1000) (p : zB) (s19 s20 : Int) : ∀ c i n, i + c = m.length → c < n →
  zO4 k n s19 s20 m.length i B.1 B.2.1 B.2.2.1 B.2.2.2 0 0 0 0 0 0 0 0 0 0 0 0 0 0 m p.1 p.2.1 p.2.2.1 p.2.2.2.1 p.2.2.2.2.1 p.2.2.2.2.2.1 p.2.2.2.2.2.2 = some (match zEf k B p (m.drop i) with
   | some (q, C) => .inr (true, p.1, p.2.1, p.2.2.1, p.2.2.2.1, p.2.2.2.2.1, p.2.2.2.2.2.1, p.2.2.2.2.2.2, q.1, q.2.1, q.2.2.1, q.2.2.2.1, q.2.2.2.2.1, q.2.2.2.2.2.1, q.2.2.2.2.2.2, C.1, C.2.1, C.2.2.1, C.2.2.2)
   | none => .inl (s19, s20, B.1, B.2.1, B.2.2.1, B.2.2.2, 0, 0, 0, 0, 0, 0, 0, 0, 0, 0, 0, 0, 0, 0, m))
 | 0, i, n, e, hn => by
  obtain ⟨n, rfl⟩ : ∃ x, n = x + 1 := ⟨n - 1, by omega⟩
  have : i = m.length := by omega
  subst this
  show zNe k _ s19 s20 m.length m.length B.1 B.2.1 B.2.2.1 B.2.2.2 0 0 0 0 0 0 0 0 0 0 0 0 0 0 m p.1 p.2.1 p.2.2.1 p.2.2.2.1 p.2.2.2.2.1 p.2.2.2.2.2.1 p.2.2.2.2.2.2 = _
  unfold zNe
  simp only [qB, vH9 (Nat.lt_irrefl _), vIf, List.drop_length]
  rfl
 | c + 1, i, n, e, hn => by
  obtain ⟨n, rfl⟩ : ∃ x, n = x + 1 := ⟨n - 1, by omega⟩
  have hi : i < m.length := by omega
  have ih := yJ8 hk h m hm p s19 s20 c (i + 1) n (by omega) (by omega)
  show zNe k _ s19 s20 m.length i B.1 B.2.1 B.2.2.1 B.2.2.2 0 0 0 0 0 0 0 0 0 0 0 0 0 0 m p.1 p.2.1 p.2.2.1 p.2.2.2.1 p.2.2.2.2.1 p.2.2.2.2.2.1 p.2.2.2.2.2.2 = _
  unfold zNe
  obtain ⟨r, h1, h2, h3⟩ := zU3 hk h (l := [p, m.getD i pd]) (by simp)
  have hf := yFc hk h (l := [p, m.getD i pd]) (by simp)
  have h1' : zDm k B.1 B.2.1 B.2.2.1 B.2.2.2 [(p.1, p.2.1, p.2.2.1, p.2.2.2.1, p.2.2.2.2.1, p.2.2.2.2.2.1, p.2.2.2.2.2.2), m.getD i (0, (0, (0, (0, (0, (0, 0))))))] = some r := h1
  have hf' : zHq k B.1 B.2.1 B.2.2.1 B.2.2.2 [(p.1, p.2.1, p.2.2.1, p.2.2.2.1, p.2.2.2.2.1, p.2.2.2.2.2.1, p.2.2.2.2.2.2), m.getD i (0, (0, (0, (0, (0, (0, 0))))))] = some (zFx B [p, m.getD i pd]) := hf
  simp only [qT, qX hi (show m.length < 9223372036854775808 by omega), qB, vIg, vH8 hi, vIe, hf', h1', vId]
  rw [yTf k B p hi]
  unfold duo
  cases decide ((m.getD i pd).2.1 = p.2.2.1) with
  | false => exact ih
  | true =>
   cases decide ((m.getD i pd).2.2.1 = p.2.1) with
   | false => exact ih
   | true =>
    cases decide (p.2.1 ≥ (m.getD i pd).2.1) with
    | true => exact ih
    | false =>
     unfold zBd
     rw [h1]
     simp only [vIi, vIj, Bool.and_true, vIe, vIf]
     cases zFx B [p, m.getD i pd] with
     | false =>
      simp only [vIj, vIe, Bool.and_false, vIf]
      exact ih
     | true =>
      simp only [vIi, vIf, Bool.and_true]
      cases decide (r.2.2.2.2 = 0) with
      | false => exact ih
      | true => rfl
theorem yDf {k : Nat} (hk : 100 < k) {B : BT} (h : yI B) (m : List zB) (hm : m.length ≤ 1000) (hmk : m.length < k) : ∀ c i n, i + c = m.length → c < n →
  zRe k n m.length i B.1 B.2.1 B.2.2.1 B.2.2.2 0 0 0 0 0 0 0 0 0 0 0 0 0 0 m = some (match zGp k B m (m.drop i) with
   | some (p, q, C) => .inr (true, p.1, p.2.1, p.2.2.1, p.2.2.2.1, p.2.2.2.2.1, p.2.2.2.2.2.1, p.2.2.2.2.2.2, q.1, q.2.1, q.2.2.1, q.2.2.2.1, q.2.2.2.2.1, q.2.2.2.2.2.1, q.2.2.2.2.2.2, C.1, C.2.1, C.2.2.1, C.2.2.2)
   | none => .inl (0, 0, 0, 0, 0, 0, 0, 0, 0, 0, 0, 0, 0, 0))
 | 0, i, n, e, hn => by
  obtain ⟨n, rfl⟩ : ∃ x, n = x + 1 := ⟨n - 1, by omega⟩
  have : i = m.length := by omega
  subst this
  show zM4 k _ m.length m.length B.1 B.2.1 B.2.2.1 B.2.2.2 0 0 0 0 0 0 0 0 0 0 0 0 0 0 m = _
  unfold zM4
  simp only [qB, vH9 (Nat.lt_irrefl _), vIf, List.drop_length]
  rfl
 | c + 1, i, n, e, hn => by
  obtain ⟨n, rfl⟩ : ∃ x, n = x + 1 := ⟨n - 1, by omega⟩
  have hi : i < m.length := by omega
  have ih := yDf hk h m hm hmk c (i + 1) n (by omega) (by omega)
  show zM4 k _ m.length i B.1 B.2.1 B.2.2.1 B.2.2.2 0 0 0 0 0 0 0 0 0 0 0 0 0 0 m = _
  unfold zM4
  have hin := yJ8 hk h m hm (m.getD i pd) m.length i m.length 0 k (by omega) hmk
  have e0 : ((0 : Nat) : Int) = 0 := rfl
  rw [e0, List.drop_zero] at hin
  simp only [pd] at hin
  simp only [qT, qB, vIg, vH8 hi, vIe]
  rw [hin]
  rw [yOq k B m hi]
  simp only [pd]
  cases zEf k B (m.getD i (0, (0, (0, (0, (0, (0, 0))))))) m with
  | none =>
   simp only [vId, qX hi (show m.length < 9223372036854775808 by omega)]
   exact ih
  | some x => rfl
def qBu (x : Option (zB × zB × BT)) : Int × Int × Int × Int × Int × Int × Int × Int × Int × Int × Int × Int × Int × Int × (List (Int × Int × Int)) × (List (List Int)) × (List Int) × (List (List Int)) × Bool := match x with
 | some (p, q, C) => (p.1, p.2.1, p.2.2.1, p.2.2.2.1, p.2.2.2.2.1, p.2.2.2.2.2.1, p.2.2.2.2.2.2, q.1, q.2.1, q.2.2.1, q.2.2.2.1, q.2.2.2.2.1, q.2.2.2.2.2.1, q.2.2.2.2.2.2, C.1, C.2.1, C.2.2.1, C.2.2.2, true)
 | none => (0, 0, 0, 0, 0, 0, 0, 0, 0, 0, 0, 0, 0, 0, [], [], [], [], false)
theorem yV9 {k : Nat} (hk : 100 < k) {B : BT} (h : yI B) {l : List zB} (hkl : l.length < k) (hl : yT l) (hd : qS l) (t : Int) : zTr k B.1 B.2.1 B.2.2.1 B.2.2.2 l t = some (qBu (zAi k B l t)) := by
 unfold zTr zAi
 rw [qRs hkl hl hd]
 have hml := qSq l t
 unfold yT at hl
 have := yDf hk h (wF l t) (by omega) (by omega) (wF l t).length 0 k (by omega) (by omega)
 have e : ((0 : Nat) : Int) = 0 := rfl
 rw [e, List.drop_zero] at this
 simp only [vId]
 rw [this]
 cases zGp k B (wF l t) (wF l t) with
 | none => rfl
 | some x => rfl
theorem yPj {k : Nat} (hk : 3 ≤ k) (t : Int) (l : List zB) (hl : l.length ≤ 1000) (hlk : l.length < k) (C : BT) (r : List zB) (hr : r.length ≤ 900) (p q : zB) :
  zE5 k k t l 2 0 C.1 C.2.1 C.2.2.1 C.2.2.2 r [p, q] = some (t, zIo l p q, C.1, C.2.1, C.2.2.1, C.2.2.2, r ++ [p, q]) := by
 obtain ⟨n, rfl⟩ : ∃ n, k = n + 3 := ⟨k - 3, by omega⟩
 have h1 := zHr hlk (show yT l from hl) p.1
 have hl1 : (wU l p.1).length ≤ l.length := by
  unfold wU zDn
  cases hp : wK l p.1 with
  | none => exact Nat.le_refl _
  | some x => exact List.Sublist.length_le (zFd l x)
 have h2 := zHr (k := n + 3) (l := wU l p.1) (by omega) (show (wU l p.1).length ≤ 1000 by omega) q.1
 have e1 : zY (r.length + 1) 56 = true := zGw (by omega)
 have e2 : zY ((r ++ [p]).length + 1) 56 = true := zGw (by rw [List.length_append]; simp; omega)
 show zGj (n + 3) (zE5 (n + 3) (n + 2)) t l 2 0 C.1 C.2.1 C.2.2.1 C.2.2.2 r [p, q] = _
 unfold zGj
 have g0 : [p, q].getD (Int.toNat 0) (0, (0, (0, (0, (0, (0, 0)))))) = p := rfl
 have b0 : zE 0 [p, q].length = true := rfl
 have d0 : decide ((0 : Int) < 2) = true := rfl
 have w0 : zC (0 + 1) = 1 := by decide
 rw [d0, b0, g0, h1]
 simp only [vIe, vId, e1, w0]
 show zGj (n + 3) (zE5 (n + 3) (n + 1)) t (wU l p.1) 2 1 C.1 C.2.1 C.2.2.1 C.2.2.2 (r ++ [p]) [p, q] = _
 unfold zGj
 have g1 : [p, q].getD (Int.toNat 1) (0, (0, (0, (0, (0, (0, 0)))))) = q := rfl
 have b1 : zE 1 [p, q].length = true := rfl
 have d1 : decide ((1 : Int) < 2) = true := rfl
 have w1 : zC (1 + 1) = 2 := by decide
 rw [d1, b1, g1, h2]
 simp only [vIe, vId, e2, w1]
 show zGj (n + 3) (zE5 (n + 3) n) t (zIo l p q) 2 2 C.1 C.2.1 C.2.2.1 C.2.2.2 (r ++ [p] ++ [q]) [p, q] = _
 unfold zGj
 have d2 : decide ((2 : Int) < 2) = false := rfl
 rw [d2, List.append_assoc]
 rfl
theorem qVv {k : Nat} (hk : 100 < k) (t : Int) : ∀ (n : Nat) (B : BT) (l r : List zB), yI B → qS l → l.length ≤ 100 → l.length < n → r.length + l.length ≤ 900 →
  ∃ (C : BT) (m done : List zB), zO7 k n t l B.1 B.2.1 B.2.2.1 B.2.2.2 r = some (m, C.1, C.2.1, C.2.2.1, C.2.2.2, r ++ done) ∧ jN k t B l done C m ∧ yI C ∧ C.1.length = B.1.length ∧ List.Sublist m l
 | 0, _, _, _, _, _, _, h, _ => absurd h (Nat.not_lt_zero _)
 | n + 1, B, l, r, hb, hd, hl, hn, hr => by
  have h1 := yV9 hk hb (l := l) (by omega) (by show l.length ≤ 1000; omega) hd t
  cases hx : zAi k B l t with
  | none =>
   rw [hx] at h1
   refine ⟨B, l, [], ?_, .stop hx, hb, rfl, List.Sublist.refl _⟩
   show zL4 k _ t l B.1 B.2.1 B.2.2.1 B.2.2.2 r = _
   unfold zL4
   rw [h1]
   simp only [vId, qBu, vIj, vIe, List.append_nil]
  | some x =>
   obtain ⟨p, q, C⟩ := x
   rw [hx] at h1
   obtain ⟨hp, hq, hdu, hg⟩ := zXh hx
   obtain ⟨hl1, hl2⟩ := zVx hd hp hq hdu
   obtain ⟨hc1, hc2⟩ := zKu hk hb (by simp) hg
   obtain ⟨D, m, done, g1, g3, g4, g5, g6⟩ := qVv hk t n C (zIo l p q) (r ++ [p, q]) hc1 (List.Pairwise.sublist hl2 hd) (by omega) (by omega) (by rw [List.length_append]; simp; omega)
   have e2 : r ++ [p, q] ++ done = r ++ p :: q :: done := by rw [List.append_assoc]; rfl
   refine ⟨D, m, p :: q :: done, ?_, .step hx g3, g4, g5.trans hc2, g6.trans hl2⟩
   show zL4 k _ t l B.1 B.2.1 B.2.2.1 B.2.2.2 r = _
   unfold zL4
   rw [h1]
   have hL := yPj (k := k) (by omega) t l (by omega) (by omega) C r (by omega) p q
   simp only [vId, qBu, vIi, vIf]
   have hL' : zE5 k k t l 2 0 C.1 C.2.1 C.2.2.1 C.2.2.2 r [(p.1, p.2.1, p.2.2.1, p.2.2.2.1, p.2.2.2.2.1, p.2.2.2.2.2.1, p.2.2.2.2.2.2), (q.1, q.2.1, q.2.2.1, q.2.2.2.1, q.2.2.2.2.1, q.2.2.2.2.2.1, q.2.2.2.2.2.2)] = _ := hL
   rw [hL']
   simp only [vId]
   rw [g1, e2]
theorem vAb {k : Nat} (hk : 200 ≤ k) {B : BT} (hb : yI B) {l : List zB} (hd : qS l) (hl : l.length ≤ 100) (t : Int) :
  ∃ (C : BT) (m done : List zB), zYz k B.1 B.2.1 B.2.2.1 B.2.2.2 l t = some (C.1, C.2.1, C.2.2.1, C.2.2.2, m, done) ∧ jN k t B l done C m ∧ yI C ∧ C.1.length = B.1.length ∧ List.Sublist m l := by
 obtain ⟨C, m, done, h1, h3⟩ := qVv (show 100 < k by omega) t k B l [] hb hd hl (by omega) (by simp; omega)
 refine ⟨C, m, done, ?_, h3⟩
 unfold zYz
 rw [h1]
 rfl
def wQ (l : List zB) (f : Int) : Nat := (l.filter (wR f)).length
def zDu (l : List zB) (many : List Int) (i : Nat) : Bool :=
 (decide ((l.getD i pd).2.1 ≥ 0) && decide ((l.getD i pd).2.1 < (many.length : Int))) && decide (((wQ (l.take i) (l.getD i pd).2.1 : Nat) : Int) < many.getD (l.getD i pd).2.1.toNat 0)
def zCm (l : List zB) (many : List Int) : Nat → List zB
 | 0 => []
 | i + 1 => zCm l many i ++ (bif zDu l many i then [l.getD i pd] else [])
def vO (l : List zB) (many : List Int) : List zB := zCm l many l.length
theorem qXc (l : List zB) (many : List Int) : ∀ N, N ≤ l.length → List.Sublist (zCm l many N) (l.take N)
 | 0, _ => by simp [zCm]
 | N + 1, h => by
  rw [← zAp l N pd h]
  unfold zCm
  apply List.Sublist.append (qXc l many N (by omega))
  cases zDu l many N <;> simp
theorem zLf (l : List zB) (many : List Int) : List.Sublist (vO l many) l := by
 have := qXc l many l.length (Nat.le_refl _)
 rwa [List.take_length] at this
def LeM (v w : List Int) : Prop := v.length = w.length ∧ ∀ i, i < w.length → v.getD i 0 ≤ w.getD i 0
def zAg (B : BT) (l : List zB) : List Int := zIc B.1 B.2.1 B.2.2.1 B.2.2.2 l
def jD (s : List Int) (m : List Int) : List Int := s.foldl (fun m i => m.set i.toNat (m.getD i.toNat 0 - 1)) m
theorem zH5 : ∀ (s m : List Int), (jD s m).length = m.length
 | [], _ => rfl
 | i :: s, m => by
  show (jD s (m.set i.toNat (m.getD i.toNat 0 - 1))).length = _
  rw [zH5 s, List.length_set]
theorem yHu : ∀ (s : List Nat) (m : List Int), s.Nodup → (∀ i ∈ s, i < m.length) → ∀ j, (jD (s.map fun (x : Nat) => (x : Int)) m).getD j 0 = m.getD j 0 - (if j ∈ s then 1 else 0)
 | [], m, _, _, j => by simp [jD]
 | i :: s, m, hs, hi, j => by
  show (jD (s.map fun (x : Nat) => (x : Int)) (m.set ((i : Int)).toNat (m.getD ((i : Int)).toNat 0 - 1))).getD j 0 = _
  rw [vIg, yHu s _ (List.nodup_cons.1 hs).2 (fun x hx => by rw [List.length_set]; exact hi x (List.mem_cons_of_mem _ hx)), vW]
  have h1 := hi i (List.mem_cons_self ..)
  have h2 := (List.nodup_cons.1 hs).1
  by_cases c : i = j
  ·subst c
   rw [if_pos ⟨rfl, h1⟩, if_neg h2, if_pos (List.mem_cons_self ..)]
   omega
  ·rw [if_neg (fun e => c e.1)]
   by_cases d : j ∈ s
   ·rw [if_pos d, if_pos (List.mem_cons_of_mem _ d)]
   ·rw [if_neg d, if_neg (fun e => by rcases List.mem_cons.1 e with e | e; exact c e.symm; exact d e)]
def zEe (B : BT) (l : List zB) (i : Nat) : Bool := zAx B.1 B.2.1 B.2.2.1 B.2.2.2 l i
theorem qT5 (B : BT) (l : List zB) {m : List Int} (hm : m.length = B.1.length) (j : Nat) : (jD (zAg B l) m).getD j 0 = m.getD j 0 - (if j < B.1.length ∧ zEe B l j = true then 1 else 0) := by
 have := yHu ((List.range B.1.length).filter fun i => zEe B l i) m (List.Nodup.sublist List.filter_sublist List.nodup_range) (fun i hi => by have := (List.mem_filter.1 hi).1; rw [List.mem_range] at this; omega) j
 unfold zAg zIc
 rw [show (fun i => zAx B.1 B.2.1 B.2.2.1 B.2.2.2 l i) = fun i => zEe B l i from rfl, this]
 congr 1
 by_cases c : j < B.1.length ∧ zEe B l j = true
 ·rw [if_pos c, if_pos (List.mem_filter.2 ⟨List.mem_range.2 c.1, c.2⟩)]
 ·rw [if_neg c, if_neg (fun e => c ⟨List.mem_range.1 (List.mem_filter.1 e).1, (List.mem_filter.1 e).2⟩)]
theorem yRa {B : BT} {l : List zB} : zAg B l = [] ↔ ∀ j, j < B.1.length → zEe B l j = false := by
 unfold zAg zIc
 rw [List.map_eq_nil_iff, List.filter_eq_nil_iff]
 constructor
 ·intro h j hj
  have := h j (List.mem_range.2 hj)
  simpa [zEe] using this
 ·intro h i hi
  have := h i (List.mem_range.1 hi)
  simpa [zEe] using this
theorem yLf {l : List zB} {many : List Int} {p : zB} : ∀ {N : Nat}, p ∈ zCm l many N → ∃ i, i < N ∧ l.getD i pd = p ∧ zDu l many i = true
 | 0, h => by cases h
 | N + 1, h => by
  unfold zCm at h
  rw [List.mem_append] at h
  rcases h with h | h
  ·obtain ⟨i, h1, h2⟩ := yLf h
   exact ⟨i, by omega, h2⟩
  ·cases hh : zDu l many N with
   | true =>
    rw [hh] at h
    simp only [vIe, List.mem_singleton] at h
    exact ⟨N, by omega, h.symm, hh⟩
   | false =>
    rw [hh] at h
    cases h
theorem vBm {B : BT} {l : List zB} (hl : ∀ q ∈ l, yN B.1.length q) {m : List Int} {j : Nat} (h : zEe B (vO l m) j = true) : 1 ≤ m.getD j 0 := by
 unfold zEe zAx at h
 rw [vIh, Bool.not_eq_true'] at h
 have hn := yKl (n := B.1.length) (l := vO l m) (fun q hq => hl q ((zLf l m).subset hq)) j
 rw [h.1] at hn
 obtain ⟨x, hx, he⟩ := zYf.1 hn
 have hf : ((vO l m).getD x pd).2.1 = (j : Int) := by simpa using he
 obtain ⟨i, h1, h2, h3⟩ := yLf (zAa (d := pd) hx)
 unfold zDu at h3
 have h2' : (l.getD i pd) = (vO l m).getD x pd := h2
 rw [h2', hf, vIg] at h3
 rw [vIh, vIc] at h3
 omega
inductive zBx (B : BT) (l : List zB) : List Int → List Int → Nat → Prop
 | stop {m : List Int} (h : zAg B (vO l m) = []) : zBx B l m m 0
 | step {m f : List Int} {n : Nat} (h : zAg B (vO l m) ≠ []) (h' : zBx B l (jD (zAg B (vO l m)) m) f n) : zBx B l m f (n + 1)
theorem yRx {B : BT} {l : List zB} {m : List Int} (hm : m.length = B.1.length) : LeM (jD (zAg B l) m) m := by
 refine ⟨zH5 _ _, fun i hi => ?_⟩
 rw [qT5 B l hm]
 split <;> omega
theorem LeM.trans {u v w : List Int} (h : LeM u v) (h' : LeM v w) : LeM u w := ⟨h.1.trans h'.1, fun i hi => Int.le_trans (h.2 i (by have := h'.1; omega)) (h'.2 i hi)⟩
theorem LeM.refl (v : List Int) : LeM v v := ⟨rfl, fun _ _ => Int.le_refl _⟩
theorem zBx.le {B : BT} {l : List zB} {m f : List Int} {n : Nat} (h : zBx B l m f n) (hm : m.length = B.1.length) : LeM f m := by
 induction h with
 | stop _ => exact LeM.refl _
 | step _ _ ih => exact (ih ((zH5 _ _).trans hm)).trans (yRx hm)
theorem zBx.final {B : BT} {l : List zB} {m f : List Int} {n : Nat} (h : zBx B l m f n) : zAg B (vO l f) = [] := by
 induction h with
 | stop h => exact h
 | step _ _ ih => exact ih
def zEt (m : List Int) : Prop := ∀ i, 0 ≤ m.getD i 0
theorem qAx {B : BT} {l : List zB} (hl : ∀ q ∈ l, yN B.1.length q) {m : List Int} (hm : m.length = B.1.length) (h0 : zEt m) : zEt (jD (zAg B (vO l m)) m) := by
 intro i
 rw [qT5 B _ hm]
 have := h0 i
 split
 ·rename_i c
  have := vBm hl c.2
  omega
 ·omega
theorem zBx.nonneg {B : BT} {l : List zB} (hl : ∀ q ∈ l, yN B.1.length q) {m f : List Int} {n : Nat} (h : zBx B l m f n) (hm : m.length = B.1.length) (h0 : zEt m) : zEt f := by
 induction h with
 | stop _ => exact h0
 | step _ _ ih => exact ih ((zH5 _ _).trans hm) (qAx hl hm h0)
def zB1 (m : List Int) : Int := zS (fun x => x) m
theorem qR7 : ∀ (m : List Int) (i : Nat) (x : Int), i < m.length → zB1 (m.set i x) = zB1 m - m.getD i 0 + x
 | [], i, x, h => absurd h (Nat.not_lt_zero _)
 | y :: m, 0, x, _ => by
  show x + zB1 m = y + zB1 m - y + x
  omega
 | y :: m, i + 1, x, h => by
  show y + zB1 (m.set i x) = y + zB1 m - m.getD i 0 + x
  rw [qR7 m i x (by simpa using h)]
  omega
theorem yNx : ∀ (s m : List Int), (∀ i ∈ s, 0 ≤ i ∧ i < (m.length : Int)) → zB1 (jD s m) = zB1 m - s.length
 | [], m, _ => by simp [jD]
 | i :: s, m, h => by
  have hi := h i (List.mem_cons_self ..)
  show zB1 (jD s (m.set i.toNat (m.getD i.toNat 0 - 1))) = _
  rw [yNx s _ (fun x hx => by rw [List.length_set]; exact h x (List.mem_cons_of_mem _ hx)), qR7 _ _ _ (by omega)]
  simp only [List.length_cons]
  omega
theorem yBz {B : BT} {l : List zB} : ∀ i ∈ zAg B l, 0 ≤ i ∧ i < (B.1.length : Int) := by
 intro i hi
 obtain ⟨x, hx, rfl⟩ := List.mem_map.1 hi
 have := List.mem_range.1 (List.mem_filter.1 hx).1
 omega
theorem qTp : ∀ {m : List Int}, zEt m → 0 ≤ zB1 m
 | [], _ => Int.le_refl 0
 | x :: m, h => by
  have h1 : 0 ≤ x := h 0
  have h2 := qTp (m := m) (fun i => h (i + 1))
  show 0 ≤ x + zB1 m
  omega
theorem yFm {B : BT} {l : List zB} (hl : ∀ q ∈ l, yN B.1.length q) : ∀ (N : Nat) (m : List Int), m.length = B.1.length → zEt m → zB1 m ≤ N → ∃ f n, zBx B l m f n ∧ n ≤ N
 | N, m, hm, h0, hN => by
  by_cases c : zAg B (vO l m) = []
  ·exact ⟨m, 0, .stop c, Nat.zero_le _⟩
  ·have ht := yNx (zAg B (vO l m)) m (by rw [hm]; exact yBz)
   have hp : 0 < (zAg B (vO l m)).length := List.length_pos_iff.2 c
   have h1 := qAx hl hm h0
   have h2 := qTp h1
   obtain ⟨N, rfl⟩ : ∃ x, N = x + 1 := ⟨N - 1, by omega⟩
   obtain ⟨f, n, h3, h4⟩ := yFm hl N _ ((zH5 _ _).trans hm) h1 (by omega)
   exact ⟨f, n + 1, .step c h3, by omega⟩
theorem qP0 (l : List zB) (many : List Int) : ∀ N, (zCm l many N).length ≤ N
 | 0 => Nat.le_refl _
 | N + 1 => by
  unfold zCm
  rw [List.length_append]
  have := qP0 l many N
  cases zDu l many N <;> simp <;> omega
theorem yWk (l : List zB) (i : Nat) (hi : i < l.length) (f : Int) : wQ (l.take (i + 1)) f = wQ (l.take i) f + (if (l.getD i pd).2.1 = f then 1 else 0) := by
 unfold wQ
 rw [zQz _ _ _ pd hi, List.length_append]
 unfold wR
 by_cases c : (l.getD i pd).2.1 = f
 ·rw [if_pos c, vH8 c]; rfl
 ·rw [if_neg c, vH9 c]; rfl
def zA2 (l : List zB) (n : Nat) : List Int := (List.range n).map fun (i : Nat) => ((wQ l i : Nat) : Int)
theorem yWc (l : List zB) (i : Nat) : zA2 l (i + 1) = zA2 l i ++ [((wQ l i : Nat) : Int)] := by
 unfold zA2
 rw [List.range_succ, List.map_append]; rfl
theorem zJ0 (l : List zB) (n : Nat) : (zA2 l n).length = n := by
 unfold zA2; simp
theorem qBg : ∀ (s m : List Int) (i : Nat), m.getD i 0 - s.length ≤ (jD s m).getD i 0 ∧ (jD s m).getD i 0 ≤ m.getD i 0
 | [], m, i => by simp [jD]
 | x :: s, m, i => by
  have h := qBg s (m.set x.toNat (m.getD x.toNat 0 - 1)) i
  rw [vW] at h
  have e : jD (x :: s) m = jD s (m.set x.toNat (m.getD x.toNat 0 - 1)) := rfl
  rw [e, List.length_cons]
  by_cases c : x.toNat = i ∧ x.toNat < m.length
  ·rw [if_pos c, c.1] at h
   rw [c.1]
   omega
  ·rw [if_neg c] at h
   omega
theorem vHi (s m : List Int) (i : Nat) (hi : i < s.length) : jD (s.take (i + 1)) m = (jD (s.take i) m).set (s.getD i 0).toNat ((jD (s.take i) m).getD (s.getD i 0).toNat 0 - 1) := by
 unfold jD
 rw [← zAp s i 0 hi, List.foldl_append]
 rfl
theorem yCz (g : Nat → Int) : ∀ n, zS (fun x => x) ((List.range n).map g) = qL g n
 | 0 => rfl
 | n + 1 => by
  rw [List.range_succ, List.map_append, zBt, yCz g n]
  show qL g n + (g n + 0) = qL g n + g n
  omega
theorem vAo (l : List zB) (f : Int) : ((wQ l f : Nat) : Int) = zS (fun p : zB => if p.2.1 = f then 1 else 0) l := by
 induction l with
 | nil => rfl
 | cons p l ih =>
  unfold wQ wR at *
  show _ = (if p.2.1 = f then (1 : Int) else 0) + zS _ l
  rw [← ih, List.filter_cons]
  by_cases c : p.2.1 = f
  ·rw [if_pos c, vH8 c, if_pos rfl, List.length_cons]; omega
  ·rw [if_neg c, vH9 c, if_neg (by simp)]; omega
theorem yUl (l : List zB) (n : Nat) : zB1 (zA2 l n) ≤ l.length := by
 unfold zB1 zA2
 rw [yCz (fun i : Nat => ((wQ l i : Nat) : Int)) n, zB8 (h := fun j => zS (fun p : zB => if p.2.1 = (j : Int) then 1 else 0) l) (fun j _ => vAo l j), zW7]
 have := (zM0 (A := 1) (l := l) (g := fun p : zB => qL (fun j => if p.2.1 = (j : Int) then 1 else 0) n) (fun p _ => by
  by_cases c : 0 ≤ p.2.1
  ·obtain ⟨f, hf⟩ : ∃ f : Nat, p.2.1 = f := ⟨p.2.1.toNat, by omega⟩
   have e : qL (fun j => if p.2.1 = (j : Int) then (1 : Int) else 0) n = qL (fun j => if j = f then 1 else 0) n := zB8 fun j _ => by
    rw [hf]
    by_cases d : j = f
    ·rw [if_pos d, if_pos (by omega)]
    ·rw [if_neg d, if_neg (by omega)]
   rw [e, zH9]
   split <;> omega
  ·have e : qL (fun j => if p.2.1 = (j : Int) then (1 : Int) else 0) n = qL (fun _ => 0) n := zB8 fun j _ => if_neg (by omega)
   rw [e, qK7]
   omega)).2
 omega
theorem qU4 (l : List zB) (n i : Nat) : (zA2 l n).getD i 0 = if i < n then ((wQ l i : Nat) : Int) else 0 := by
 unfold zA2
 by_cases c : i < n
 ·rw [if_pos c, List.getD_eq_getElem?_getD, List.getElem?_eq_getElem (by simpa using c)]
  simp
 ·rw [if_neg c, List.getD_eq_getElem?_getD, List.getElem?_eq_none (by simpa using c)]
  rfl
theorem vFc (l : List zB) (f : Int) : wQ l f ≤ l.length := List.length_filter_le _ _
theorem zZy {l : List zB} (hl : l.length ≤ 1000) (n : Nat) : zEt (zA2 l n) ∧ ∀ i, (zA2 l n).getD i 0 ≤ 1000 := by
 refine ⟨fun i => ?_, fun i => ?_⟩
 ·rw [qU4]; split <;> omega
 ·rw [qU4]
  have := vFc l i
  split <;> omega
theorem qOl {B : BT} {l : List zB} (hl : ∀ q ∈ l, yN B.1.length q) (h64 : l.length ≤ 64) (m : List Int) : vR B.1.length (vO l m) :=
 ⟨fun p hp => hl p ((zLf l m).subset hp), by have := (zLf l m).length_le; omega⟩
def vT (l : List zB) (t : Int) : List zB := l.filter (zDc t)
theorem zVo {n : Nat} {l : List zB} {t : Int} (h : ∀ q ∈ l, yN n q) : ∀ q ∈ vT l t, yN n q := fun q hq => h q (List.mem_filter.1 hq).1
theorem zQp (l : List zB) (t : Int) : (vT l t).length ≤ l.length := List.length_filter_le _ _
theorem yJw {B : BT} (hb : yI B) {l : List zB} (hl : ∀ q ∈ l, yN B.1.length q) (h64 : l.length ≤ 64) (t : Int) :
  ∃ f n, zBx B (vT l t) (zA2 (vT l t) B.1.length) f n ∧ n ≤ (vT l t).length := by
 have h1 := zZy (l := vT l t) (by have := zQp l t; omega) B.1.length
 have h2 := yUl (vT l t) B.1.length
 exact yFm (zVo hl) (vT l t).length _ (zJ0 _ _) h1.1 (by omega)
def zEw (l : List zB) (hs : List zB) : List zB := hs.foldl (fun l p => wU l p.1) l
theorem vAr (l : List zB) (id : Int) : (wU l id).length ≤ l.length ∧ List.Sublist (wU l id) l := by
 unfold wU zDn
 cases wK l id with
 | none => exact ⟨Nat.le_refl _, List.Sublist.refl _⟩
 | some x => exact ⟨(zFd l x).length_le, zFd l x⟩
theorem qB5 : ∀ (hs l : List zB), (zEw l hs).length ≤ l.length ∧ List.Sublist (zEw l hs) l
 | [], l => ⟨Nat.le_refl _, List.Sublist.refl _⟩
 | p :: hs, l => by
  obtain ⟨h1, h2⟩ := qB5 hs (wU l p.1)
  obtain ⟨h3, h4⟩ := vAr l p.1
  exact ⟨Nat.le_trans h1 h3, h2.trans h4⟩
theorem yZ3 (l hs : List zB) (i : Nat) (hi : i < hs.length) : zEw l (hs.take (i + 1)) = wU (zEw l (hs.take i)) (hs.getD i pd).1 := by
 unfold zEw
 rw [← zAp hs i pd hi, List.foldl_append]
 rfl
def zWc (B : BT) (l hs : List zB) (r : List qK × List (List Int) × List Int × List (List Int) × Int) : (List (Int × Int × Int)) × (List (List Int)) × (List Int) × (List (List Int)) × (List zB) × (List zB) :=
 bif !(decide (r.2.2.2.2 = 0)) then (B.1, B.2.1, B.2.2.1, B.2.2.2, l, []) else (r.1, r.2.1, r.2.2.1, r.2.2.2.1, zEw l hs, hs)
theorem qMt {k : Nat} {l : List zB} (hk : l.length < k) (hl : yT l) {many : List Int} (h0 : zEt many) (hm : ∀ i, many.getD i 0 ≤ 1000) (hml : many.length ≤ 1000) : zJc k l many = some (vO l many) := by
 unfold yT at hl
 unfold zJc qL1 qFy
 rw [wA (by omega) (by omega)]
 simp only [vIe, vId]
 obtain ⟨s', h1, h2, h3, h4⟩ := wZ (L := fun n i (s : List Int × List zB) => zJe k n l l.length i s.1 s.2) (N := l.length) (fun s => s) (fun i s => s.1.length = many.length ∧ (∀ f : Nat, f < many.length → s.1.getD f 0 = if many.getD f 0 ≤ (wQ (l.take i) f : Nat) then 0 else many.getD f 0 - (wQ (l.take i) f : Nat)) ∧ s.2 = zCm l many i) (fun n s _ => by
  show zKs k _ l l.length l.length s.1 s.2 = _
  unfold zKs
  simp only [qB, vH9 (Nat.lt_irrefl _), vIf]) (fun n i s hi hs => by
  obtain ⟨s1, s2, s3⟩ := hs
  have hsl : s.2.length ≤ i := by rw [s3]; exact qP0 l many i
  show ∃ s', zKs k _ l l.length i s.1 s.2 = _ ∧ _
  unfold zKs qEi
  simp only [qT, qX hi (show l.length < 9223372036854775808 by omega), qB, vIg, vH8 hi, vIe, zGw (show s.2.length ≤ 1000 by omega)]
  have hcs := fun f => yWk l i hi f
  have hno : ∀ f : Nat, f < many.length → (l.getD i pd).2.1 ≠ (f : Int) → (if many.getD f 0 ≤ (wQ (l.take (i + 1)) f : Nat) then (0 : Int) else many.getD f 0 - (wQ (l.take (i + 1)) f : Nat)) = if many.getD f 0 ≤ (wQ (l.take i) f : Nat) then 0 else many.getD f 0 - (wQ (l.take i) f : Nat) := by
   intro f hf hne
   rw [hcs f, if_neg hne, Nat.add_zero]
  have skip : zDu l many i = false → (∀ f : Nat, f < many.length → (l.getD i pd).2.1 = (f : Int) → many.getD f 0 ≤ (wQ (l.take i) f : Nat)) → (s.1.length = many.length ∧ (∀ f : Nat, f < many.length → s.1.getD f 0 = if many.getD f 0 ≤ (wQ (l.take (i + 1)) f : Nat) then 0 else many.getD f 0 - (wQ (l.take (i + 1)) f : Nat)) ∧ s.2 = zCm l many (i + 1)) := by
   intro hh hz
   refine ⟨s1, fun f hf => ?_, ?_⟩
   ·by_cases c : (l.getD i pd).2.1 = (f : Int)
    ·have := hz f hf c
     rw [s2 f hf, if_pos this, hcs f, if_pos c, if_pos (by omega)]
    ·rw [hno f hf c, s2 f hf]
   ·show _ = zCm l many i ++ _
    rw [hh, s3]; simp
  cases e1 : decide ((l.getD i pd).2.1 < 0) with
  | true =>
   refine ⟨s, rfl, skip ?_ ?_⟩
   ·unfold zDu
    rw [vIc] at e1
    rw [vH9 (show ¬ (l.getD i pd).2.1 ≥ 0 by omega)]; rfl
   ·intro f hf c
    rw [vIc] at e1
    omega
  | false =>
   cases e2 : decide ((l.getD i pd).2.1 ≥ ((s.1.length : Nat) : Int)) with
   | true =>
    refine ⟨s, rfl, skip ?_ ?_⟩
    ·unfold zDu
     rw [vIc] at e2
     rw [vH9 (show ¬ (l.getD i pd).2.1 < (many.length : Int) by omega), Bool.and_false]; rfl
    ·intro f hf c
     rw [vIc] at e2
     omega
   | false =>
    rw [decide_eq_false_iff_not] at e1 e2
    obtain ⟨f, hf⟩ : ∃ f : Nat, (l.getD i pd).2.1 = f := ⟨(l.getD i pd).2.1.toNat, by omega⟩
    have hfl : f < many.length := by omega
    have hf' : (l.getD i (0, (0, (0, (0, (0, (0, 0))))))).2.1 = f := hf
    simp only [vIf, hf', qT, vIg, s1, vH8 hfl, vIe]
    have hat : zDu l many i = decide (((wQ (l.take i) f : Nat) : Int) < many.getD f 0) := by
     unfold zDu
     rw [hf, vH8 (show (f : Int) ≥ 0 by omega), vH8 (show (f : Int) < (many.length : Int) by omega), vIg]
     rfl
    have hval := s2 f hfl
    cases e3 : decide (s.1.getD f 0 < 1) with
    | true =>
     rw [vIc, hval] at e3
     have hle : many.getD f 0 ≤ (wQ (l.take i) f : Nat) := by
      by_cases c : many.getD f 0 ≤ (wQ (l.take i) f : Nat)
      ·exact c
      ·rw [if_neg c] at e3; omega
     refine ⟨s, rfl, skip (by rw [hat]; exact vH9 (by omega)) ?_⟩
     intro g hg c
     have : g = f := by omega
     subst this
     exact hle
    | false =>
     rw [decide_eq_false_iff_not] at e3
     have hgt : ¬ many.getD f 0 ≤ (wQ (l.take i) f : Nat) := by
      intro c
      rw [hval, if_pos c] at e3
      omega
     rw [if_neg hgt] at hval
     have hm' := hm f
     have hw : zC (s.1.getD f 0 - 1) = s.1.getD f 0 - 1 := yH (by omega) (by omega)
     refine ⟨(s.1.set f (s.1.getD f 0 - 1), s.2 ++ [l.getD i pd]), ?_, ?_, ?_, ?_⟩
     ·simp only [vIf, vId, vIe, hw]
     ·rw [List.length_set]; exact s1
     ·intro g hg
      rw [vW]
      by_cases c : f = g
      ·subst c
       rw [if_pos ⟨rfl, by omega⟩, hcs f, if_pos hf, hval]
       by_cases d : many.getD f 0 ≤ ((wQ (l.take i) f + 1 : Nat) : Int)
       ·rw [if_pos d]; omega
       ·rw [if_neg d]; omega
      ·rw [if_neg (fun e => c e.1), hno g hg (by omega)]
       exact s2 g hg
     ·show s.2 ++ [l.getD i pd] = zCm l many i ++ _
      rw [hat, vH8 (by omega), s3]; rfl) (s := (many, [])) hk ⟨rfl, fun f hf => by
   have : (wQ (l.take 0) f : Nat) = 0 := rfl
   have h0f := h0 f
   rw [this]
   by_cases c : many.getD f 0 ≤ ((0 : Nat) : Int)
   ·rw [if_pos c]
    show many.getD f 0 = 0
    omega
   ·rw [if_neg c]
    show many.getD f 0 = _
    omega, rfl⟩
 have h1' : zJe k k l l.length 0 many [] = some s' := h1
 rw [h1']
 simp only [vId, h4]
 rfl
theorem qUw {k : Nat} {l : List zB} (hk : l.length < k) (hl : yT l) (f : Int) : zRx k l f = some (l.filter (wR f)) := by
 unfold zRx qOd
 have := yFx pd (L := fun n i s => zPn k n l l.length i f s) (wR f) id (fun n s => by
  show zKt k _ l l.length l.length f s = _
  unfold zKt
  simp only [qB, vH9 (Nat.lt_irrefl _), vIf]; rfl) (fun n i s hi hs => by
  show zKt k _ l l.length i f s = _
  unfold zKt qM9
  unfold yT at hl
  simp only [qT, qX hi (show l.length < 9223372036854775808 by omega), qB, vIg, vH8 hi, vIe, zGw (show s.length ≤ 1000 by omega)]
  unfold wR
  cases h1 : decide ((l.getD i pd).2.1 = f) <;> rfl) hk
 rw [this]
 rfl
theorem yOr {k : Nat} {B : BT} {l : List zB} (hk : l.length < k) (hl : yT l) (hn : B.1.length < k) (hn' : B.1.length ≤ 1000) (s7 : Int) :
  zHh k k s7 B.1.length 0 B.1 B.2.1 B.2.2.1 B.2.2.2 [] l = some (s7, B.1, B.2.1, B.2.2.1, B.2.2.2, zA2 l B.1.length, l) := by
 obtain ⟨s', h1, h2⟩ := wZ (L := fun n i (s : List Int) => zHh k n s7 B.1.length i B.1 B.2.1 B.2.2.1 B.2.2.2 s l) (N := B.1.length) (fun s => (s7, B.1, B.2.1, B.2.2.1, B.2.2.2, s, l)) (fun i s => s = zA2 l i) (fun n s _ => by
  show zKw k _ s7 B.1.length B.1.length B.1 B.2.1 B.2.2.1 B.2.2.2 s l = _
  unfold zKw
  simp only [qB, vH9 (Nat.lt_irrefl _), vIf]) (fun n i s hi hs => by
  refine ⟨_, ?_, (yWc l i).symm⟩
  show zKw k _ s7 B.1.length i B.1 B.2.1 B.2.2.1 B.2.2.2 s l = _
  unfold zKw
  have hr : zY (s.length + 1) 8 = true := by rw [hs, zJ0]; exact wA (by omega) (by omega)
  simp only [qB, vH8 hi, vIe, qUw hk hl, vId, hr, qX hi (show B.1.length < 9223372036854775808 by omega)]
  rw [hs]
  rfl) (s := []) hn rfl
 exact h1.trans (by rw [h2])
theorem vAx {k : Nat} {B : BT} {l : List zB} {s m : List Int} (hk : s.length < k) (hs : s.length ≤ 1000) (hin : ∀ x ∈ s, 0 ≤ x ∧ x < (m.length : Int)) (h0 : zEt m) (hm : ∀ i, m.getD i 0 ≤ 1000) (s7 : Int) :
  zJ6 k k s7 s.length 0 B.1 B.2.1 B.2.2.1 B.2.2.2 m l s = some (s7, B.1, B.2.1, B.2.2.1, B.2.2.2, jD s m, l) := by
 obtain ⟨s', h1, h2⟩ := wZ (L := fun n i (r : List Int) => zJ6 k n s7 s.length i B.1 B.2.1 B.2.2.1 B.2.2.2 r l s) (N := s.length) (fun r => (s7, B.1, B.2.1, B.2.2.1, B.2.2.2, r, l)) (fun i r => r = jD (s.take i) m) (fun n r _ => by
  show zKd k _ s7 s.length s.length B.1 B.2.1 B.2.2.1 B.2.2.2 r l s = _
  unfold zKd
  simp only [qB, vH9 (Nat.lt_irrefl _), vIf]) (fun n i r hi hr => by
  refine ⟨_, ?_, (vHi s m i hi).symm⟩
  show zKd k _ s7 s.length i B.1 B.2.1 B.2.2.1 B.2.2.2 r l s = _
  unfold zKd
  obtain ⟨b1, b2⟩ := hin _ (zAa (d := 0) hi)
  have hrl : r.length = m.length := by rw [hr, zH5]
  have hb : zE (s.getD i 0) r.length = true := zM9 b1 (by omega)
  have hbd := qBg (s.take i) m (s.getD i 0).toNat
  have h0' := h0 (s.getD i 0).toNat
  have hm' := hm (s.getD i 0).toNat
  have hlt : (s.take i).length ≤ s.length := List.length_take_le' _ _
  have hw : zC (r.getD (s.getD i 0).toNat 0 - 1) = r.getD (s.getD i 0).toNat 0 - 1 := by
   rw [hr]
   exact yH (by omega) (by omega)
  simp only [qB, qT, vIg, vH8 hi, vIe, hb, hw, qX hi (show s.length < 9223372036854775808 by omega)]
  rw [hr]) (s := m) hk rfl
 have := h1.trans (by rw [h2, List.take_length])
 exact this
theorem vEo {k : Nat} (hk : 100 < k) {B : BT} (hb : yI B) {l : List zB} (hl : ∀ q ∈ l, yN B.1.length q) (h64 : l.length ≤ 64) {m f : List Int} {n : Nat} (h : zBx B l m f n) :
  ∀ (N : Nat) (s7 : Int), m.length = B.1.length → zEt m → (∀ i, m.getD i 0 ≤ 1000) → n < N → 0 ≤ s7 → s7 + n < 1000000 →
  zRn k N s7 B.1 B.2.1 B.2.2.1 B.2.2.2 m l = some (s7 + n + 1, f) := by
 induction h with
 | @stop m h =>
  intro N s7 hm h0 h1 hn hs hs'
  obtain ⟨N, rfl⟩ : ∃ x, N = x + 1 := ⟨N - 1, by omega⟩
  have hn6 := hb.n6
  show zMt k _ s7 B.1 B.2.1 B.2.2.1 B.2.2.2 m l = _
  unfold zMt
  have hS := qFh hk hb (qOl hl h64 m)
  have hS' : zH7 k B.1 B.2.1 B.2.2.1 B.2.2.2 (vO l m) = some (zAg B (vO l m)) := hS
  rw [qMt (by omega) (show yT l by show l.length ≤ 1000; omega) h0 h1 (by omega)]
  simp only [vId]
  rw [hS', h]
  simp only [vId]
  have w : zC (s7 + 1) = s7 + 1 := yH (by omega) (by omega)
  rw [w]
  simp
 | @step m f n h h' ih =>
  intro N s7 hm h0 h1 hn hs hs'
  obtain ⟨N, rfl⟩ : ∃ x, N = x + 1 := ⟨N - 1, by omega⟩
  have hn6 := hb.n6
  show zMt k _ s7 B.1 B.2.1 B.2.2.1 B.2.2.2 m l = _
  unfold zMt
  have hS := qFh hk hb (qOl hl h64 m)
  have hS' : zH7 k B.1 B.2.1 B.2.2.1 B.2.2.2 (vO l m) = some (zAg B (vO l m)) := hS
  rw [qMt (by omega) (show yT l by show l.length ≤ 1000; omega) h0 h1 (by omega)]
  simp only [vId]
  rw [hS']
  simp only [vId]
  have w : zC (s7 + 1) = s7 + 1 := yH (by omega) (by omega)
  have hne : decide ((((zAg B (vO l m)).length : Nat) : Int) = 0) = false := vH9 (by
   have := List.length_pos_iff.2 h
   omega)
  have hsl : (zAg B (vO l m)).length ≤ B.1.length := by
   unfold zAg zIc
   rw [List.length_map]
   have := List.length_filter_le (fun i => zAx B.1 B.2.1 B.2.2.1 B.2.2.2 (vO l m) i) (List.range B.1.length)
   rwa [List.length_range] at this
  rw [hne, w]
  simp only [vIf]
  rw [vAx (by omega) (by omega) (by rw [hm]; exact yBz) h0 h1]
  simp only [vId]
  have hd0 := qAx hl hm h0
  have := ih N (s7 + 1) ((zH5 _ _).trans hm) hd0 (fun i => by have := (qBg (zAg B (vO l m)) m i).2; have := h1 i; omega) (by omega) (by omega) (by omega)
  rw [this]
  congr 2
  omega
theorem yTo {k : Nat} (hk : 100 < k) {B : BT} (hb : yI B) {l : List zB} (hl : ∀ q ∈ l, yN B.1.length q) (h64 : l.length ≤ 64) (t : Int) {f : List Int} {n : Nat} (hn : n ≤ l.length) (h : zBx B (vT l t) (zA2 (vT l t) B.1.length) f n) :
  zXt k B.1 B.2.1 B.2.2.1 B.2.2.2 l t = some (f, ((n + 1 : Nat) : Int)) := by
 have hn6 := hb.n6
 have hr := zQp l t
 have h1 := zZy (l := vT l t) (by omega) B.1.length
 unfold zXt
 rw [zZ5 (by omega) (by show l.length ≤ 1000; omega)]
 simp only [vId]
 have e : zHh k k 0 B.1.length 0 B.1 B.2.1 B.2.2.1 B.2.2.2 [] (l.filter (zDc t)) = _ := yOr (k := k) (B := B) (l := vT l t) (by omega) (by show (vT l t).length ≤ 1000; omega) (by omega) (by omega) 0
 rw [e]
 simp only [vId]
 rw [vEo hk hb (zVo hl) (by omega) h k 0 (zJ0 _ _) h1.1 h1.2 (by omega) (by omega) (by omega)]
 simp
theorem vFz {k : Nat} {C : BT} {l hs : List zB} (hl : l.length < k) (hl' : l.length ≤ 1000) (hk : hs.length < k) (hh : hs.length ≤ 1000) :
  zI2 k k l hs.length 0 C.1 C.2.1 C.2.2.1 C.2.2.2 hs = some (zEw l hs, C.1, C.2.1, C.2.2.1, C.2.2.2, hs) := by
 obtain ⟨s', h1, h2⟩ := wZ (L := fun n i (s : List zB) => zI2 k n s hs.length i C.1 C.2.1 C.2.2.1 C.2.2.2 hs) (N := hs.length) (fun s => (s, C.1, C.2.1, C.2.2.1, C.2.2.2, hs)) (fun i s => s = zEw l (hs.take i)) (fun n s _ => by
  show zNf k _ s hs.length hs.length C.1 C.2.1 C.2.2.1 C.2.2.2 hs = _
  unfold zNf
  simp only [qB, vH9 (Nat.lt_irrefl _), vIf]) (fun n i s hi hr => by
  refine ⟨_, ?_, (yZ3 l hs i hi).symm⟩
  show zNf k _ s hs.length i C.1 C.2.1 C.2.2.1 C.2.2.2 hs = _
  unfold zNf
  have hsl := (qB5 (hs.take i) l).1
  rw [← hr] at hsl ⊢
  simp only [qB, qT, vIg, vH8 hi, vIe, zHr (show s.length < k by omega) (show yT s by show s.length ≤ 1000; omega), vId, qX hi (show hs.length < 9223372036854775808 by omega)]
  rfl) (s := l) hk rfl
 have := h1.trans (by rw [h2, List.take_length])
 exact this
theorem qTa {k : Nat} (hk : 100 < k) {B : BT} (hb : yI B) {l : List zB} (hl : ∀ q ∈ l, yN B.1.length q) (h64 : l.length ≤ 64) (t : Int) {f : List Int} {n : Nat} (hn : n ≤ l.length) (h : zBx B (vT l t) (zA2 (vT l t) B.1.length) f n)
  {r : List qK × List (List Int) × List Int × List (List Int) × Int} (hr : zDm k B.1 B.2.1 B.2.2.1 B.2.2.2 (vO (vT l t) f) = some r) : zKy k B.1 B.2.1 B.2.2.1 B.2.2.2 l t = some (zWc B l (vO (vT l t) f) r) := by
 have hn6 := hb.n6
 have hrl := zQp l t
 have h1 := zZy (l := vT l t) (by omega) B.1.length
 have hle := h.le (zJ0 _ _)
 have h0 := h.nonneg (zVo hl) (zJ0 _ _) h1.1
 have hfl : f.length = B.1.length := hle.1.trans (zJ0 _ _)
 have hf : ∀ i, f.getD i 0 ≤ 1000 := fun i => by
  by_cases c : i < (zA2 (vT l t) B.1.length).length
  ·have := hle.2 i c
   have := h1.2 i
   omega
  ·rw [List.getD_eq_getElem?_getD, List.getElem?_eq_none (by have := hle.1; omega)]
   show (0 : Int) ≤ 1000
   omega
 have hhl := (zLf (vT l t) f).length_le
 unfold zKy
 rw [yTo hk hb hl h64 t hn h, zZ5 (by omega) (by show l.length ≤ 1000; omega)]
 simp only [vId]
 have e : zJc k (l.filter (zDc t)) f = _ := qMt (k := k) (l := vT l t) (by omega) (by show (vT l t).length ≤ 1000; omega) h0 hf (by omega)
 rw [e]
 simp only [vId]
 rw [hr]
 simp only [vId]
 unfold zWc
 cases decide (r.2.2.2.2 = 0) with
 | false => rfl
 | true =>
  simp only [vIi, vIf]
  have e2 : zI2 k k l ((List.length (vO (vT l t) f) : Nat) : Int) 0 r.1 r.2.1 r.2.2.1 r.2.2.2.1 (vO (vT l t) f) = _ := vFz (C := (r.1, r.2.1, r.2.2.1, r.2.2.2.1)) (by omega) (by omega) (by omega) (by omega)
  rw [e2]
  rfl
theorem yP8 {l : List zB} {x : Nat} (hx : x < l.length) : List.Perm (l.getD x pd :: vA l x) l := by
 unfold vA
 have h : List.Perm (l.getD x pd :: (l.take x ++ l.drop (x + 1))) (l.take x ++ l.getD x pd :: l.drop (x + 1)) := List.perm_middle.symm
 have e := zR2 l x pd hx
 rw [← e] at h
 exact h
theorem zUf {l : List zB} (hd : qS l) {p : zB} (hp : p ∈ l) : List.Perm (p :: wU l p.1) l := by
 obtain ⟨x, hx⟩ := qHg hp
 have h := zDh hx
 have e : l.getD x pd = p := hd.eq_of (zAa h.1) hp h.2
 unfold wU zDn
 rw [hx]
 have := yP8 h.1
 rw [e] at this
 exact this
theorem Ran.perm {k : Nat} {t : Int} {B C : BT} {l done m : List zB} (h : Ran k t B l done C m) (hd : qS l) : List.Perm (done ++ m) l := by
 induction h with
 | stop _ => exact List.Perm.refl _
 | step h _ ih =>
  have hp := zU4 (zQh h).1
  exact ((ih (List.Pairwise.sublist (zJd hp).2 hd)).cons _).trans (zUf hd hp)
theorem jN.perm {k : Nat} {t : Int} {B C : BT} {l done m : List zB} (h : jN k t B l done C m) (hd : qS l) : List.Perm (done ++ m) l := by
 induction h with
 | stop _ => exact List.Perm.refl _
 | step h _ ih =>
  obtain ⟨hp, hq, hdu, _⟩ := zXh h
  obtain ⟨h1, h2⟩ := zVx hd hp hq hdu
  have hd' : qS (wU _ _) := List.Pairwise.sublist (zJd hp).2 hd
  have hq' := qI1 hp hq (yKd hd hp hq hdu)
  exact (((ih (List.Pairwise.sublist h2 hd)).cons _).cons _).trans (((zUf hd' hq').cons _).trans (zUf hd hp))
theorem Ran.final {k : Nat} {t : Int} {B C : BT} {l done m : List zB} (h : Ran k t B l done C m) : jL k C (wF m t) = none := by
 induction h with
 | stop h => exact h
 | step _ _ ih => exact ih
theorem jN.final {k : Nat} {t : Int} {B C : BT} {l done m : List zB} (h : jN k t B l done C m) : zAi k C m t = none := by
 induction h with
 | stop h => exact h
 | step _ _ ih => exact ih
theorem qS.perm {l m : List zB} (h : qS l) (hp : List.Perm m l) : qS m := (List.Perm.pairwise_iff (R := fun p q : zB => p.1 ≠ q.1) (fun hab => Ne.symm hab) hp.symm).1 h
inductive zCn (k : Nat) (t : Int) : BT → List zB → List zB → BT → List zB → Prop
 | stop {B C : BT} {l m d : List zB} (h1 : Ran k t B l d C m) (h2 : zAi k C m t = none) : zCn k t B l d C m
 | step {B C D E : BT} {l m n o d e f : List zB} (h1 : Ran k t B l d C m) (h2 : jN k t C m e D n) (ne : e ≠ []) (h' : zCn k t D n f E o) : zCn k t B l (d ++ e ++ f) E o
theorem zCn.perm {k : Nat} {t : Int} {B C : BT} {l done m : List zB} (h : zCn k t B l done C m) (hd : qS l) : List.Perm (done ++ m) l := by
 induction h with
 | stop h1 _ => exact h1.perm hd
 | @step B C D E l m n o d e f h1 h2 ne h' ih =>
  have p1 := h1.perm hd
  have hd1 := hd.perm p1
  have hm : qS m := (List.pairwise_append.1 hd1).2.1
  have p2 := h2.perm hm
  have hn : qS n := (List.pairwise_append.1 (hm.perm p2)).2.1
  have p3 := ih hn
  have e1 : d ++ e ++ f ++ o = d ++ (e ++ (f ++ o)) := by simp
  rw [e1]
  exact ((p3.append_left e).append_left d).trans ((p2.append_left d).trans p1)
theorem zCn.final {k : Nat} {t : Int} {B C : BT} {l done m : List zB} (h : zCn k t B l done C m) : jL k C (wF m t) = none ∧ zAi k C m t = none := by
 induction h with
 | stop h1 h2 => exact ⟨h1.final, h2⟩
 | step _ _ _ _ ih => exact ih
theorem Ran.none {k : Nat} {t : Int} {B C : BT} {l done m : List zB} (h : Ran k t B l done C m) (hn : jL k B (wF l t) = none) : done = [] ∧ C = B ∧ m = l := by
 cases h with
 | stop _ => exact ⟨rfl, rfl, rfl⟩
 | step h _ => rw [hn] at h; cases h
theorem jN.none {k : Nat} {t : Int} {B C : BT} {l done m : List zB} (h : jN k t B l done C m) (hn : zAi k B l t = none) : done = [] ∧ C = B ∧ m = l := by
 cases h with
 | stop _ => exact ⟨rfl, rfl, rfl⟩
 | step h _ => rw [hn] at h; cases h
theorem jN.nil {k : Nat} {t : Int} {B C : BT} {l m : List zB} (h : jN k t B l [] C m) : zAi k B l t = Option.none ∧ C = B ∧ m = l := by
 cases h with
 | stop h => exact ⟨h, rfl, rfl⟩
theorem zCn.none {k : Nat} {t : Int} {B C : BT} {l done m : List zB} (h : zCn k t B l done C m) (h1 : jL k B (wF l t) = Option.none) (h2 : zAi k B l t = Option.none) : done = [] ∧ C = B ∧ m = l := by
 cases h with
 | stop g1 _ => exact g1.none h1
 | step g1 g2 ne _ =>
  obtain ⟨rfl, rfl, rfl⟩ := g1.none h1
  obtain ⟨rfl, _, _⟩ := g2.none h2
  exact absurd rfl ne
theorem qZd {k : Nat} (hk : 200 ≤ k) (t : Int) : ∀ (n : Nat) (B : BT) (l r : List zB), yI B → qS l → l.length ≤ 100 → l.length < n → r.length + l.length ≤ 900 →
  ∃ (C : BT) (m done : List zB), zRv k n t l B.1 B.2.1 B.2.2.1 B.2.2.2 r = some (m, C.1, C.2.1, C.2.2.1, C.2.2.2, r ++ done) ∧ zCn k t B l done C m ∧ yI C ∧ C.1.length = B.1.length ∧ List.Sublist m l
 | 0, _, _, _, _, _, _, h, _ => absurd h (Nat.not_lt_zero _)
 | n + 1, B, l, r, hb, hd, hl, hn, hr => by
  obtain ⟨C, m, d, f1, f2, f3, f4, f5⟩ := yXi hk hb hd hl t
  have p1 := f2.perm hd
  have l1 := p1.length_eq
  rw [List.length_append] at l1
  have hm : qS m := List.Pairwise.sublist f5 hd
  obtain ⟨D, o, e, g1, g2, g3, g4, g5⟩ := vAb hk f3 hm (by omega) t
  have p2 := g2.perm hm
  have l2 := p2.length_eq
  rw [List.length_append] at l2
  have r1 : zY (r.length + d.length) 56 = true := wA (by omega) (by omega)
  have r2 : zY ((r ++ d).length + e.length) 56 = true := wA (by rw [List.length_append]; omega) (by rw [List.length_append]; omega)
  show ∃ C' m' done', zWv k _ t l B.1 B.2.1 B.2.2.1 B.2.2.2 r = _ ∧ _
  unfold zWv
  rw [f1]
  simp only [vId]
  rw [g1]
  simp only [vId, r1, r2, vIe]
  cases e with
  | nil =>
   obtain ⟨h1, h2, h3⟩ := g2.nil
   subst h2; subst h3
   refine ⟨D, o, d, ?_, .stop f2 h1, f3, f4, f5⟩
   simp
  | cons p e =>
   have hlt : o.length + (e.length + 1) = m.length := by simp at l2; omega
   obtain ⟨E, q, f, k1, k2, k3, k4, k5⟩ := qZd hk t n D o (r ++ d ++ (p :: e)) g3 (List.Pairwise.sublist g5 hm) (by omega) (by omega) (by simp; omega)
   refine ⟨E, q, d ++ (p :: e) ++ f, ?_, .step f2 g2 (by simp) k2, k3, k4.trans (g4.trans f4), k5.trans (g5.trans f5)⟩
   have e1 : decide ((((p :: e).length : Nat) : Int) = 0) = false := vH9 (by simp; omega)
   rw [e1]
   simp only [vIf]
   rw [k1]
   simp
theorem zXs {k : Nat} (hk : 200 ≤ k) {B : BT} (hb : yI B) {l : List zB} (hd : qS l) (hl : l.length ≤ 100) (t : Int) :
  ∃ (C : BT) (m done : List zB), zQ5 k B.1 B.2.1 B.2.2.1 B.2.2.2 l t = some (C.1, C.2.1, C.2.2.1, C.2.2.2, m, done) ∧ zCn k t B l done C m ∧ yI C ∧ C.1.length = B.1.length ∧ List.Sublist m l := by
 obtain ⟨C, m, done, h1, h3⟩ := qZd hk t k B l [] hb hd hl (by omega) (by simp; omega)
 refine ⟨C, m, done, ?_, h3⟩
 unfold zQ5
 rw [h1]
 rfl
theorem yL9 : ∀ (hs l : List zB), qS l → qS hs → (∀ q ∈ hs, q ∈ l) → List.Perm (hs ++ zEw l hs) l
 | [], l, _, _, _ => List.Perm.refl _
 | p :: hs, l, hd, hh, hin => by
  have hp := hin p (List.mem_cons_self ..)
  obtain ⟨h1, h2⟩ := zJd hp
  have hc := List.pairwise_cons.1 hh
  have := yL9 hs (wU l p.1) (List.Pairwise.sublist h2 hd) hc.2 (fun q hq => qI1 hp (hin q (List.mem_cons_of_mem _ hq)) (fun e => hc.1 q hq e.symm))
  exact (this.cons p).trans (zUf hd hp)
theorem vA4 {k : Nat} (hk : 100 < k) {B : BT} (hb : yI B) : zDm k B.1 B.2.1 B.2.2.1 B.2.2.2 [] = some (B.1, B.2.1, B.2.2.1, B.2.2.2, 0) := by
  obtain ⟨r, h1, h3⟩ := zXg hk hb (l := []) (by simp)
  have hrow : vR B.1.length [] := ⟨fun p hp => (by cases hp), by simp⟩
  obtain ⟨a', p', h4, h5⟩ := h3.1 hrow
  have hid : zFf B.1.length B.1 B.2.2.2 [] B.1 B.2.2.2 := {
    al := rfl
    acct := fun i hi => by
      have hc := hb.acct i hi
      have hr : 0 ≤ (B.1.getD i ad).2.2 := by
        have := hb.nums.res i hi
        exact this.1
      show B.1.getD i ad = ((B.1.getD i ad).1 + 0, (B.1.getD i ad).2.1, vU (B.1.getD i ad).2.2 0)
      have e : vU (B.1.getD i ad).2.2 0 = (B.1.getD i ad).2.2 := by
        unfold vU
        split <;> omega
      rw [e, Int.add_zero]
    pl := hb.pl
    pr := hb.pr
    cell := fun i hi j hj => by show _ = _ + 0 - 0; omega }
  obtain ⟨e1, e2⟩ := h4.same hid
  subst e1; subst e2
  rw [qJh.2 hb] at h5
  rw [h1, h5]
  rfl
theorem qYf {k : Nat} (hk : 200 ≤ k) {B : BT} (hb : yI B) {l : List zB} (hd : qS l) (hl : ∀ q ∈ l, yN B.1.length q) (h64 : l.length ≤ 64) (t : Int) :
  ∃ (C : BT) (m done : List zB), zKy k B.1 B.2.1 B.2.2.1 B.2.2.2 l t = some (C.1, C.2.1, C.2.2.1, C.2.2.2, m, done) ∧ yI C ∧ C.1.length = B.1.length ∧ List.Sublist m l ∧ List.Perm (done ++ m) l ∧ (done = [] → C = B ∧ m = l) := by
 obtain ⟨f, n, h, hn⟩ := yJw hb hl h64 t
 have hrl := zQp l t
 have hsub := zLf (vT l t) f
 have hhl := hsub.length_le
 obtain ⟨r, h1, h2, h3⟩ := zU3 (k := k) (by omega) hb (l := vO (vT l t) f) (by omega)
 have hs := zOq hb h3
 have g1 := qTa (k := k) (by omega) hb hl h64 t (by omega) h h1
 unfold zWc at g1
 cases c : decide (r.2.2.2.2 = 0) with
 | false =>
  rw [c] at g1
  exact ⟨B, l, [], g1, hb, rfl, List.Sublist.refl _, List.Perm.refl _, fun _ => ⟨rfl, rfl⟩⟩
 | true =>
  rw [c] at g1
  have hsl : List.Sublist (vO (vT l t) f) l := hsub.trans List.filter_sublist
  have hal : r.1.length = B.1.length := by
   by_cases c' : vR B.1.length (vO (vT l t) f)
   ·obtain ⟨a', p', x, e⟩ := h3.1 c'
    cases hi : isB a' B.2.1 B.2.2.1 p' with
    | false => rw [hi] at e; subst e; rfl
    | true => rw [hi] at e; subst e; exact x.al
   ·rw [h3.2 c']
  refine ⟨(r.1, r.2.1, r.2.2.1, r.2.2.2.1), zEw l (vO (vT l t) f), vO (vT l t) f, g1, hs.2.1, hal, (qB5 _ _).2, yL9 _ _ hd (List.Pairwise.sublist hsl hd) (fun q hq => hsl.subset hq), fun e => ?_⟩
  rw [e] at h1 ⊢
  rw [vA4 (by omega) hb] at h1
  cases h1
  exact ⟨rfl, rfl⟩
theorem qVl {k : Nat} (hk : 200 ≤ k) {B : BT} (hb : yI B) {l : List zB} (hd : qS l) (hl : ∀ q ∈ l, yN B.1.length q) (h64 : l.length ≤ 64) (t : Int) (all : Bool) :
  ∃ (C : BT) (m done : List zB), zHw k B.1 B.2.1 B.2.2.1 B.2.2.2 l t all = some (C.1, C.2.1, C.2.2.1, C.2.2.2, m, done) ∧ yI C ∧ C.1.length = B.1.length ∧ List.Sublist m l ∧ List.Perm (done ++ m) l ∧ jL k C (wF m t) = none ∧ zAi k C m t = none := by
 obtain ⟨C, m, d, f1, f2, f3, f4, f5⟩ := zXs hk hb hd (by omega) t
 have p1 := f2.perm hd
 have l1 := p1.length_eq
 rw [List.length_append] at l1
 unfold zHw
 rw [f1]
 simp only [vId]
 cases all with
 | false => exact ⟨C, m, d, rfl, f3, f4, f5, p1, f2.final⟩
 | true =>
  simp only [vIi, vIf]
  have hm : qS m := List.Pairwise.sublist f5 hd
  obtain ⟨D, n, x, g1, g2, g3, g4, g5, g6⟩ := qYf hk f3 hm (fun q hq => by rw [f4]; exact hl q (f5.subset hq)) (by omega) t
  have l2 := g5.length_eq
  rw [List.length_append] at l2
  rw [g1]
  simp only [vId]
  cases x with
  | nil =>
   obtain ⟨rfl, rfl⟩ := g6 rfl
   exact ⟨D, n, d, rfl, f3, f4, f5, p1, f2.final⟩
  | cons p x =>
   have e1 : decide ((((p :: x).length : Nat) : Int) = 0) = false := vH9 (by simp; omega)
   rw [e1]
   simp only [vIf]
   have hn : qS n := List.Pairwise.sublist g4 hm
   obtain ⟨E, o, y, k1, k2, k3, k4, k5⟩ := zXs hk g2 hn (by omega) t
   have p3 := k2.perm hn
   have l3 := p3.length_eq
   rw [List.length_append] at l3
   have r1 : zY (d.length + (p :: x).length) 56 = true := wA (by simp at l2 ⊢; omega) (by simp at l2 ⊢; omega)
   have r2 : zY ((d ++ (p :: x)).length + y.length) 56 = true := wA (by simp at l2 ⊢; omega) (by simp at l2 ⊢; omega)
   rw [k1]
   simp only [vId, r1, r2, vIe]
   refine ⟨E, o, d ++ (p :: x) ++ y, rfl, k3, k4.trans (g3.trans f4), k5.trans (g4.trans f5), ?_, k2.final⟩
   have e2 : d ++ (p :: x) ++ y ++ o = d ++ ((p :: x) ++ (y ++ o)) := by simp
   rw [e2]
   exact ((p3.append_left (p :: x)).append_left d).trans ((g5.append_left d).trans p1)
abbrev vN := Int × Int × Int × Int × Int × Int × Int × Int
instance instDecOut : DecidableEq vN := @instDecidableEqProd Int (Int × Int × Int × Int × Int × Int × Int) inferInstance (@instDecidableEqProd Int (Int × Int × Int × Int × Int × Int) inferInstance inferInstance)
def jP (to : Int) (p : zB) : vN := (to, 18, p.1, p.2.1, p.2.2.1, p.2.2.2.1, 0, 0)
def zDj (p : zB) : List vN := [jP p.2.1 p, jP p.2.2.1 p]
def wV : List zB → List vN
 | [] => []
 | p :: l => zDj p ++ wV l
theorem yKa : ∀ (l m : List zB), wV (l ++ m) = wV l ++ wV m
 | [], _ => rfl
 | p :: l, m => by
  show zDj p ++ wV (l ++ m) = zDj p ++ wV l ++ wV m
  rw [yKa l m, List.append_assoc]
theorem zV9 : ∀ (l : List zB), (wV l).length = 2 * l.length
 | [] => rfl
 | p :: l => by
  show (zDj p ++ wV l).length = _
  rw [List.length_append, zV9 l]
  simp [zDj]
  omega
theorem vG6 (l : List zB) (i : Nat) (hi : i < l.length) : wV (l.take (i + 1)) = wV (l.take i) ++ zDj (l.getD i pd) := by
 rw [← zAp l i pd hi, yKa]
 show _ ++ (zDj _ ++ []) = _
 rw [List.append_nil]
theorem zOg {n : Nat} (h : n ≤ 1000) : zY (n + 1) 64 = true := wA (by omega) (by omega)
theorem yX8 {k : Nat} (hk : 3 ≤ k) (s8 : List zB) (s9 s10 : Int) (r : List vN) (hr : r.length ≤ 900) (p : zB) :
  zGz k k s8 s9 s10 2 0 r p.1 p.2.1 p.2.2.1 p.2.2.2.1 p.2.2.2.2.1 p.2.2.2.2.2.1 p.2.2.2.2.2.2 [p.2.1, p.2.2.1] = some (s8, s9, s10, r ++ zDj p) := by
 obtain ⟨n, rfl⟩ : ∃ n, k = n + 3 := ⟨k - 3, by omega⟩
 have e1 : zY (r.length + 1) 64 = true := zOg (by omega)
 have e2 : zY ((r ++ [jP p.2.1 p]).length + 1) 64 = true := zOg (by rw [List.length_append]; simp; omega)
 have h1 : zDi (n + 3) p.2.1 18 [p.1, p.2.1, p.2.2.1, p.2.2.2.1] = some (jP p.2.1 p) := rfl
 have h2 : zDi (n + 3) p.2.2.1 18 [p.1, p.2.1, p.2.2.1, p.2.2.2.1] = some (jP p.2.2.1 p) := rfl
 have w0 : zC (0 + 1) = 1 := by decide
 have w1 : zC (1 + 1) = 2 := by decide
 show zG2 (n + 3) (zGz (n + 3) (n + 2)) s8 s9 s10 2 0 r p.1 p.2.1 p.2.2.1 p.2.2.2.1 p.2.2.2.2.1 p.2.2.2.2.2.1 p.2.2.2.2.2.2 [p.2.1, p.2.2.1] = _
 unfold zG2
 have g0 : [p.2.1, p.2.2.1].getD (Int.toNat 0) 0 = p.2.1 := rfl
 have b0 : zE 0 [p.2.1, p.2.2.1].length = true := rfl
 have d0 : decide ((0 : Int) < 2) = true := rfl
 rw [d0, b0, g0, h1]
 simp only [vIe, vId, e1, w0]
 show zG2 (n + 3) (zGz (n + 3) (n + 1)) s8 s9 s10 2 1 (r ++ [jP p.2.1 p]) p.1 p.2.1 p.2.2.1 p.2.2.2.1 p.2.2.2.2.1 p.2.2.2.2.2.1 p.2.2.2.2.2.2 [p.2.1, p.2.2.1] = _
 unfold zG2
 have g1 : [p.2.1, p.2.2.1].getD (Int.toNat 1) 0 = p.2.2.1 := rfl
 have b1 : zE 1 [p.2.1, p.2.2.1].length = true := rfl
 have d1 : decide ((1 : Int) < 2) = true := rfl
 rw [d1, b1, g1, h2]
 simp only [vIe, vId, e2, w1]
 show zG2 (n + 3) (zGz (n + 3) n) s8 s9 s10 2 2 (r ++ [jP p.2.1 p] ++ [jP p.2.2.1 p]) p.1 p.2.1 p.2.2.1 p.2.2.2.1 p.2.2.2.2.1 p.2.2.2.2.2.1 p.2.2.2.2.2.2 [p.2.1, p.2.2.1] = _
 unfold zG2
 have d2 : decide ((2 : Int) < 2) = false := rfl
 rw [d2, List.append_assoc]
 rfl
theorem yGp {k : Nat} {l : List zB} (hk : l.length + 3 ≤ k) (hl : l.length ≤ 400) : zWo k l = some (wV l) := by
 unfold zWo
 obtain ⟨s', h1, h2⟩ := wZ (L := fun n i (s : List vN) => zJ2 k n l l.length i s) (N := l.length) (fun s => s) (fun i s => s = wV (l.take i)) (fun n s _ => by
  show zMe k _ l l.length l.length s = _
  unfold zMe
  simp only [qB, vH9 (Nat.lt_irrefl _), vIf]) (fun n i s hi hs => by
  refine ⟨_, ?_, (vG6 l i hi).symm⟩
  show zMe k _ l l.length i s = _
  unfold zMe
  have hsl : s.length ≤ 900 := by
   rw [hs, zV9, List.length_take]; omega
  have h2 := yX8 (k := k) (by omega) l l.length i s hsl (l.getD i pd)
  simp only [pd] at h2
  simp only [qT, qB, vIg, vH8 hi, vIe]
  rw [h2]
  simp only [vId, qX hi (show l.length < 9223372036854775808 by omega)]
  rw [hs]) (s := []) (show l.length < k by omega) rfl
 have h1' : zJ2 k k l l.length 0 [] = some s' := h1
 rw [h1', h2, List.take_length]
 rfl
def jE (q : zB) (o : vN) : Bool := decide (o.2.2.1 = q.1) && (decide (o.1 = q.2.1) && (decide (o.2.1 = 21) || (decide (o.2.1 = 22) || decide (o.2.1 = 18))))
def zA6 (q : zB) (o : List vN) : Nat := o.countP (jE q)
theorem zH1 (q : zB) (a b : List vN) : zA6 q (a ++ b) = zA6 q a + zA6 q b := List.countP_append
theorem qBv {f : zB → Bool} {q : zB} : ∀ {ps : List zB}, qS ps → q ∈ ps → f q = true → (∀ p ∈ ps, f p = true → p.1 = q.1) → ps.countP f = 1
 | [], _, h, _, _ => by cases h
 | p :: ps, hd, hq, hf, hu => by
  have hc := List.pairwise_cons.1 hd
  rw [List.countP_cons]
  rcases List.mem_cons.1 hq with rfl | hq
  ·rw [hf, if_pos rfl]
   have : ps.countP f = 0 := by
    rw [List.countP_eq_zero]
    intro r hr hfr
    exact hc.1 r hr (hu r (List.mem_cons_of_mem _ hr) hfr).symm
   omega
  ·have : f p = false := by
    cases h : f p with
    | false => rfl
    | true => exact absurd (hu p (List.mem_cons_self ..) h) (hc.1 q hq)
   rw [this, qBv hc.2 hq hf (fun r hr => hu r (List.mem_cons_of_mem _ hr))]
   rfl
def jA (kd : Int) (p : zB) : vN := (p.2.1, kd, p.1, 0, 0, 0, 0, 0)
theorem zKn {kd : Int} (hk : kd = 21 ∨ kd = 22) {q : zB} {ps : List zB} (hd : qS ps) : (q ∈ ps → zA6 q (ps.map (jA kd)) = 1) ∧ ((∀ p ∈ ps, p.1 ≠ q.1) → zA6 q (ps.map (jA kd)) = 0) := by
 unfold zA6
 rw [List.countP_map]
 constructor
 ·intro h
  apply qBv hd h
  ·show jE q (jA kd q) = true
   unfold jE jA
   rcases hk with rfl | rfl <;> simp
  ·intro p hp hf
   have hf' : jE q (jA kd p) = true := hf
   unfold jE jA at hf'
   rw [vIh, vIc] at hf'
   exact hf'.1
 ·intro h
  rw [List.countP_eq_zero]
  intro p hp hf
  have hf' : jE q (jA kd p) = true := hf
  unfold jE jA at hf'
  rw [vIh, vIc] at hf'
  exact h p hp hf'.1
theorem yJx (q : zB) : ∀ (d : List zB), zA6 q (wV d) = d.countP (fun p => jE q (jP p.2.1 p)) + d.countP (fun p => jE q (jP p.2.2.1 p))
 | [] => rfl
 | p :: d => by
  show zA6 q (zDj p ++ wV d) = _
  rw [zH1, yJx q d, List.countP_cons, List.countP_cons]
  have e : zA6 q (zDj p) = (if jE q (jP p.2.1 p) = true then 1 else 0) + (if jE q (jP p.2.2.1 p) = true then 1 else 0) := by
   unfold zA6 zDj
   rw [List.countP_cons, List.countP_cons, List.countP_nil]
   omega
  rw [e]
  omega
theorem zYi {n : Nat} {q : zB} {d : List zB} (hd : qS d) (hm : ∀ p ∈ d, yN n p) : (q ∈ d → zA6 q (wV d) = 1) ∧ ((∀ p ∈ d, p.1 ≠ q.1) → zA6 q (wV d) = 0) := by
 have h2 : ∀ (l : List zB), qS l → (∀ p ∈ l, yN n p) → (q ∈ l ∨ ∀ p ∈ l, p.1 ≠ q.1) → l.countP (fun p => jE q (jP p.2.2.1 p)) = 0 := by
  intro l hdl hml hq
  rw [List.countP_eq_zero]
  intro p hp hf
  have hf' : jE q (jP p.2.2.1 p) = true := hf
  unfold jE jP at hf'
  rw [vIh, vIh, vIc, vIc] at hf'
  rcases hq with hq | hq
  ·have := hdl.eq_of hp hq hf'.1
   subst this
   exact (hml p hp).ne hf'.2.1.symm
  ·exact hq p hp hf'.1
 rw [yJx]
 constructor
 ·intro h
  rw [h2 d hd hm (.inl h), qBv hd h]
  ·show jE q (jP q.2.1 q) = true
   unfold jE jP
   simp
  ·intro p hp hf
   have hf' : jE q (jP p.2.1 p) = true := hf
   unfold jE jP at hf'
   rw [vIh, vIc] at hf'
   exact hf'.1
 ·intro h
  rw [h2 d hd hm (.inr h)]
  have : d.countP (fun p => jE q (jP p.2.1 p)) = 0 := by
   rw [List.countP_eq_zero]
   intro p hp hf
   have hf' : jE q (jP p.2.1 p) = true := hf
   unfold jE jP at hf'
   rw [vIh, vIc] at hf'
   exact h p hp hf'.1
  omega
def zHi (B : BT) (i : Nat) : vN := ((i : Int), 23, (B.1.getD i ad).1, 0, 0, 0, 0, 0)
def zC0 (B : BT) (n : Nat) : List vN := (List.range n).map (zHi B)
theorem qQq (q : zB) (B : BT) (n : Nat) : zA6 q (zC0 B n) = 0 := by
 unfold zA6 zC0
 rw [List.countP_map, List.countP_eq_zero]
 intro i _ hf
 have hf' : jE q (zHi B i) = true := hf
 unfold jE zHi at hf'
 simp at hf'
theorem yZc (B : BT) (i : Nat) : zC0 B (i + 1) = zC0 B i ++ [zHi B i] := by
 unfold zC0
 rw [List.range_succ, List.map_append]; rfl
theorem yUy {α β : Type} (f : α → β) (l : List α) (i : Nat) (d : α) (h : i < l.length) : (l.take (i + 1)).map f = (l.take i).map f ++ [f (l.getD i d)] := by
 rw [← zAp l i d h, List.map_append]; rfl
theorem yQb {k : Nat} {B : BT} (hB : B.1.length ≤ 6) (hk : 200 ≤ k) {m : List zB} (hm : m.length ≤ 100) (t : Int) (pr : List Int) (ho : List (List Int)) (ids : List Int) (to : Int) (ov : Bool) :
  zUu k t B.1 B.2.1 B.2.2.1 B.2.2.2 pr ho m ids to ov = some (t, B.1, B.2.1, B.2.2.1, B.2.2.2, pr, ho, [], ids, to, true, m.map (jA 22) ++ zC0 B B.1.length) := by
 unfold zUu
 obtain ⟨s', h1, h2⟩ := wZ (L := fun n i (s : List vN) => zJv k n m m.length i t B.1 B.2.1 B.2.2.1 B.2.2.2 pr ho m ids to ov 0 0 false s) (N := m.length) (fun s => (t, B.1, B.2.1, B.2.2.1, B.2.2.2, pr, ho, m, ids, to, ov, 0, 0, false, s)) (fun i s => s = (m.take i).map (jA 22)) (fun n s _ => by
  show zL9 k _ m m.length m.length t B.1 B.2.1 B.2.2.1 B.2.2.2 pr ho m ids to ov 0 0 false s = _
  unfold zL9
  simp only [qB, vH9 (Nat.lt_irrefl _), vIf]) (fun n i s hi hs => by
  refine ⟨_, ?_, (yUy (jA 22) m i pd hi).symm⟩
  show zL9 k _ m m.length i t B.1 B.2.1 B.2.2.1 B.2.2.2 pr ho m ids to ov 0 0 false s = _
  unfold zL9
  have hsl : s.length ≤ 900 := by rw [hs, List.length_map, List.length_take]; omega
  have ho2 : zDi k (m.getD i pd).2.1 22 [(m.getD i pd).1] = some (jA 22 (m.getD i pd)) := rfl
  simp only [pd] at ho2
  simp only [qT, qB, vIg, vH8 hi, vIe, ho2, vId, zOg (show s.length ≤ 1000 by omega), qX hi (show m.length < 9223372036854775808 by omega)]
  rw [hs]) (s := []) (show m.length < k by omega) rfl
 have h1' : zJv k k m m.length 0 t B.1 B.2.1 B.2.2.1 B.2.2.2 pr ho m ids to ov 0 0 false [] = _ := h1
 rw [h1', h2, List.take_length]
 simp only [vId]
 obtain ⟨s2, g1, g2⟩ := wZ (L := fun n i (s : List vN) => zJb k n B.1 B.1.length i t B.1 B.2.1 B.2.2.1 B.2.2.2 pr ho m ids to ov 0 0 false s) (N := B.1.length) (fun s => (t, B.1, B.2.1, B.2.2.1, B.2.2.2, pr, ho, m, ids, to, ov, 0, 0, false, s)) (fun i s => s = m.map (jA 22) ++ zC0 B i) (fun n s _ => by
  show zMq k _ B.1 B.1.length B.1.length t B.1 B.2.1 B.2.2.1 B.2.2.2 pr ho m ids to ov 0 0 false s = _
  unfold zMq
  simp only [qB, vH9 (Nat.lt_irrefl _), vIf]) (fun n i s hi hs => by
  refine ⟨_, ?_, (show m.map (jA 22) ++ zC0 B i ++ [zHi B i] = m.map (jA 22) ++ zC0 B (i + 1) by rw [yZc, List.append_assoc])⟩
  show zMq k _ B.1 B.1.length i t B.1 B.2.1 B.2.2.1 B.2.2.2 pr ho m ids to ov 0 0 false s = _
  unfold zMq
  have hsl : s.length ≤ 900 := by
   rw [hs, List.length_append, List.length_map]
   unfold zC0
   rw [List.length_map, List.length_range]
   omega
  have ho2 : zDi k i 23 [(B.1.getD i ad).1] = some (zHi B i) := rfl
  have ho3 : zDi k i 23 [(B.1.getD i (0, 0, 0)).1] = some (zHi B i) := ho2
  simp only [qT, qB, vIg, vH8 hi, vIe, ho3, vId, zOg (show s.length ≤ 1000 by omega), qX hi (show B.1.length < 9223372036854775808 by omega)]
  rw [hs]) (s := m.map (jA 22)) (show B.1.length < k by omega) (by show _ = _ ++ []; rw [List.append_nil])
 have g1' : zJb k k B.1 B.1.length 0 t B.1 B.2.1 B.2.2.1 B.2.2.2 pr ho m ids to ov 0 0 false (m.map (jA 22)) = _ := g1
 rw [g1', g2]
 rfl
def wC (t : Int) (p : zB) : Bool := decide (t > p.2.2.2.2.2.2)
theorem yYk {k : Nat} (hk : 200 ≤ k) {m : List zB} (hm : m.length ≤ 100) (pa : Int) (as : List (Int × Int)) (cu cl pe t : Int) (B : BT) (pr : List Int) (ho : List (List Int)) (ids : List Int) (to : Int) (ov : Bool) :
  zL2 k k m m.length 0 pa as cu cl pe t B.1 B.2.1 B.2.2.1 B.2.2.2 pr ho m ids to ov 0 0 false [] [] = some (pa, as, cu, cl, pe, t, B.1, B.2.1, B.2.2.1, B.2.2.2, pr, ho, m, ids, to, ov, 0, 0, false, (m.filter (wC t)).map (jA 21), m.filter (fun p => !wC t p)) := by
 obtain ⟨s', h1, h2, h3⟩ := wZ (L := fun n i (s : List vN × List zB) => zL2 k n m m.length i pa as cu cl pe t B.1 B.2.1 B.2.2.1 B.2.2.2 pr ho m ids to ov 0 0 false s.1 s.2) (N := m.length) (fun s => (pa, as, cu, cl, pe, t, B.1, B.2.1, B.2.2.1, B.2.2.2, pr, ho, m, ids, to, ov, 0, 0, false, s.1, s.2)) (fun i s => s.1 = ((m.take i).filter (wC t)).map (jA 21) ∧ s.2 = (m.take i).filter (fun p => !wC t p)) (fun n s _ => by
  show zKe k _ m m.length m.length pa as cu cl pe t B.1 B.2.1 B.2.2.1 B.2.2.2 pr ho m ids to ov 0 0 false s.1 s.2 = _
  unfold zKe
  simp only [qB, vH9 (Nat.lt_irrefl _), vIf]) (fun n i s hi hs => by
  have hl1 : s.1.length ≤ 900 := by
   rw [hs.1, List.length_map]
   have := List.length_filter_le (wC t) (m.take i)
   rw [List.length_take] at this
   omega
  have hl2 : s.2.length ≤ 900 := by
   rw [hs.2]
   have := List.length_filter_le (fun p => !wC t p) (m.take i)
   rw [List.length_take] at this
   omega
  show ∃ s', zKe k _ m m.length i pa as cu cl pe t B.1 B.2.1 B.2.2.1 B.2.2.2 pr ho m ids to ov 0 0 false s.1 s.2 = _ ∧ _
  unfold zKe qC6
  have ho2 : zDi k (m.getD i pd).2.1 21 [(m.getD i pd).1] = some (jA 21 (m.getD i pd)) := rfl
  simp only [pd] at ho2
  simp only [qT, qB, vIg, vH8 hi, vIe, ho2, vId, zOg (show s.1.length ≤ 1000 by omega), zGw (show s.2.length ≤ 1000 by omega), qX hi (show m.length < 9223372036854775808 by omega)]
  have f1 := zQz (wC t) m i pd hi
  have f2 := zQz (fun p => !wC t p) m i pd hi
  cases hb : wC t (m.getD i pd) with
  | true =>
   have hb' : decide (t > (m.getD i (0, 0, 0, 0, 0, 0, 0)).2.2.2.2.2.2) = true := hb
   rw [hb']
   refine ⟨(s.1 ++ [jA 21 (m.getD i pd)], s.2), rfl, ?_, ?_⟩
   ·show s.1 ++ _ = _
    rw [f1, hb, hs.1]
    simp
   ·show s.2 = _
    rw [f2, hb, hs.2]
    simp
  | false =>
   have hb' : decide (t > (m.getD i (0, 0, 0, 0, 0, 0, 0)).2.2.2.2.2.2) = false := hb
   rw [hb']
   refine ⟨(s.1, s.2 ++ [m.getD i pd]), rfl, ?_, ?_⟩
   ·show s.1 = _
    rw [f1, hb, hs.1]
    simp
   ·show s.2 ++ _ = _
    rw [f2, hb, hs.2]
    simp) (s := ([], [])) (show m.length < k by omega) ⟨rfl, rfl⟩
 have := h1.trans (by rw [h2, h3, List.take_length])
 exact this
structure yX9 (t cl : Int) (B C : BT) (m m' : List zB) (ov : Bool) (o : List vN) : Prop where
 bk : yI C
 bl : C.1.length = B.1.length
 sub : List.Sublist m' m
 over : ov = decide (t + 1 = cl)
 none : ov = true → m' = []
 late : ov = false → ∀ p ∈ m', wC (t + 1) p = false
 zOq : ∀ p ∈ m', zA6 p o = 0
 zBd : ∀ p ∈ m, p ∉ m' → zA6 p o = 1
 quiet : ∀ q : zB, (∀ p ∈ m, p.1 ≠ q.1) → zA6 q o = 0
 room : o.length + 2 * m'.length ≤ 2 * m.length + (if ov = true then 6 else 0)
theorem qS.not_in {l m d : List zB} (hd : qS (d ++ m)) {p : zB} (hp : p ∈ m) : ∀ q ∈ d, q.1 ≠ p.1 := fun q hq => (List.pairwise_append.1 hd).2.2 q hq p hp
structure wN (B C : BT) : Prop where
 len : C.1.length = B.1.length
 sum : qL (fun i => (C.1.getD i ad).1) B.1.length = qL (fun i => (B.1.getD i ad).1) B.1.length
 cred : ∀ i, i < B.1.length → (C.1.getD i ad).2.1 = (B.1.getD i ad).2.1
 bil : C.2.1 = B.2.1
 mul : C.2.2.1 = B.2.2.1
 fell : ∀ i, i < B.1.length → (C.1.getD i ad).1 < (B.1.getD i ad).1 → 0 ≤ (C.1.getD i ad).1 + (C.1.getD i ad).2.1
theorem wN.refl (B : BT) : wN B B := ⟨rfl, rfl, fun _ _ => rfl, rfl, rfl, fun _ _ h => absurd h (Int.lt_irrefl _)⟩
theorem wN.trans {B C D : BT} (h : wN B C) (g : wN C D) : wN B D :=
 ⟨g.len.trans h.len, by have := g.sum; rw [h.len] at this; exact this.trans h.sum, fun i hi => (g.cred i (by rw [h.len]; exact hi)).trans (h.cred i hi), g.bil.trans h.bil, g.mul.trans h.mul, fun i hi => by
  have h1 := h.fell i hi
  have h2 := g.fell i (by rw [h.len]; exact hi)
  have h3 := g.cred i (by rw [h.len]; exact hi)
  omega⟩
theorem qSk (i : Nat) : ∀ {l : List zB}, (∀ p ∈ l, 0 ≤ p.2.2.2.1) → 0 ≤ zS (gB i) l + (zS (gN i) l + zS (gR i) l)
 | [], _ => Int.le_refl _
 | p :: l, h => by
  have h1 := qSk i fun q hq => h q (List.mem_cons_of_mem _ hq)
  have h2 := h p (List.mem_cons_self ..)
  have h3 : 0 ≤ gB i p + (gN i p + gR i p) := by
   unfold gB gN gR
   repeat' split
   all_goals omega
  show 0 ≤ gB i p + zS (gB i) l + (gN i p + zS (gN i) l + (gR i p + zS (gR i) l))
  omega
theorem yOm {a a' : List qK} {b p p' : List (List Int)} {m : List Int} {l : List zB} (x : zFf a.length a p l a' p') (hf : zL0 a b m p l = true) (hl : ∀ q ∈ l, yN a.length q) {i : Nat} (hi : i < a.length) :
  (a'.getD i ad).1 < (a.getD i ad).1 → 0 ≤ (a'.getD i ad).1 + (a'.getD i ad).2.1 := by
 have h1 := qSk i (l := l) fun q hq => by have := (hl q hq).a1; omega
 unfold zL0 at hf
 rw [vIh] at hf
 have h2 := zAv.1 hf.2 i hi
 unfold zAx at h2
 simp only [Bool.not_eq_true', Bool.and_eq_false_iff, Bool.or_eq_false_iff, Bool.not_eq_false', vIc, decide_eq_false_iff_not] at h2
 rw [x.acct i hi]
 show (a.getD i ad).1 + zS (gB i) l < _ → 0 ≤ (a.getD i ad).1 + zS (gB i) l + (a.getD i ad).2.1
 omega
theorem qUh {B : BT} (h : yI B) {l : List zB} (hf : zFx B l = true) {r : List qK × List (List Int) × List Int × List (List Int) × Int} (hp : zEl B.1 B.2.1 B.2.2.1 B.2.2.2 l r) : wN B (r.1, r.2.1, r.2.2.1, r.2.2.2.1) := by
 have hs := (zOq h hp).1
 by_cases c : vR B.1.length l
 ·obtain ⟨a', p', x, e⟩ := hp.1 c
  cases hi : isB a' B.2.1 B.2.2.1 p' with
  | false => rw [hi] at e; subst e; exact wN.refl B
  | true =>
   rw [hi] at e; subst e
   exact ⟨x.al, hs, fun i hi' => by show (a'.getD i ad).2.1 = _; rw [x.acct i hi'], rfl, rfl, fun i hi' => yOm x hf c.1 hi'⟩
 ·rw [hp.2 c]; exact wN.refl B
theorem yB1 {k : Nat} (hk : 100 < k) {B C : BT} (h : yI B) {l : List zB} (hl : l.length ≤ 80) (hg : zBd k B l = some C) : wN B C := by
 obtain ⟨r, h1, h3⟩ := zXg hk h hl
 unfold zBd at hg
 rw [h1] at hg
 simp only at hg
 cases hc : decide (r.2.2.2.2 = 0) && zFx B l with
 | false => rw [hc] at hg; cases hg
 | true =>
  rw [hc] at hg
  simp only [vIe, Option.some.injEq] at hg
  subst hg
  rw [vIh] at hc
  exact qUh h hc.2 h3
theorem Ran.keptC {k : Nat} (hk : 100 < k) {t : Int} {B C : BT} {l done m : List zB} (h : Ran k t B l done C m) (hb : yI B) : wN B C := by
 induction h with
 | stop _ => exact wN.refl _
 | @step B C D l m done p h h' ih =>
  have hg := (zQh h).2
  exact (yB1 hk hb (by simp) hg).trans (ih (zKu hk hb (by simp) hg).1)
theorem jN.keptC {k : Nat} (hk : 100 < k) {t : Int} {B C : BT} {l done m : List zB} (h : jN k t B l done C m) (hb : yI B) : wN B C := by
 induction h with
 | stop _ => exact wN.refl _
 | @step B C D l m done p q h h' ih =>
  have hg := (zVg h).2.2.2
  exact (yB1 hk hb (by simp) hg).trans (ih (zKu hk hb (by simp) hg).1)
theorem Ran.bk {k : Nat} (hk : 100 < k) {t : Int} {B C : BT} {l done m : List zB} (h : Ran k t B l done C m) (hb : yI B) : yI C := by
 induction h with
 | stop _ => exact hb
 | step h h' ih => exact ih (zKu hk hb (by simp) (zQh h).2).1
theorem jN.bk {k : Nat} (hk : 100 < k) {t : Int} {B C : BT} {l done m : List zB} (h : jN k t B l done C m) (hb : yI B) : yI C := by
 induction h with
 | stop _ => exact hb
 | step h h' ih => exact ih (zKu hk hb (by simp) (zVg h).2.2.2).1
theorem zCn.keptC {k : Nat} (hk : 100 < k) {t : Int} {B C : BT} {l done m : List zB} (h : zCn k t B l done C m) (hb : yI B) : wN B C := by
 induction h with
 | stop h1 _ => exact h1.keptC hk hb
 | step h1 h2 ne h' ih =>
  have b1 := h1.bk hk hb
  exact ((h1.keptC hk hb).trans (h2.keptC hk b1)).trans (ih (h2.bk hk b1))
theorem yO8 {k : Nat} (hk : 200 ≤ k) {B : BT} (hb : yI B) {l : List zB} (hl : ∀ q ∈ l, yN B.1.length q) (h64 : l.length ≤ 64) (t : Int) {C : BT} {m done : List zB} (hr : zKy k B.1 B.2.1 B.2.2.1 B.2.2.2 l t = some (C.1, C.2.1, C.2.2.1, C.2.2.2, m, done)) : wN B C := by
 obtain ⟨f, n, h, hn⟩ := yJw hb hl h64 t
 have hrl := zQp l t
 have hsub := zLf (vT l t) f
 have hhl := hsub.length_le
 obtain ⟨r, h1, h3⟩ := zXg (k := k) (by omega) hb (l := vO (vT l t) f) (by omega)
 have g1 := qTa (k := k) (by omega) hb hl h64 t (by omega) h h1
 unfold zWc at g1
 rw [g1] at hr
 cases c : decide (r.2.2.2.2 = 0) with
 | false =>
  rw [c] at hr
  simp only [vIj, vIe, Option.some.injEq, Prod.mk.injEq] at hr
  obtain ⟨e1, e2, e3, e4, _⟩ := hr
  have : B = C := Prod.ext e1 (Prod.ext e2 (Prod.ext e3 e4))
  rw [← this]
  exact wN.refl B
 | true =>
  rw [c] at hr
  simp only [vIi, vIf, Option.some.injEq, Prod.mk.injEq] at hr
  obtain ⟨e1, e2, e3, e4, _⟩ := hr
  have : (r.1, r.2.1, r.2.2.1, r.2.2.2.1) = C := Prod.ext e1 (Prod.ext e2 (Prod.ext e3 e4))
  rw [← this]
  refine qUh hb ?_ h3
  have hw := qOl (zVo (t := t) hl) (by omega) f
  have hs := yRa.1 h.final
  unfold zFx zL0
  rw [zJr.2 hw.1, vH8 hw.2]
  simp only [Bool.and_self, Bool.true_and]
  rw [zAv]
  intro j hj
  have := hs j hj
  unfold zEe at this
  rw [this]
  rfl
theorem qB6 {C D : BT} {m n d e : List zB} (h : (C.1, C.2.1, C.2.2.1, C.2.2.2, m, d) = (D.1, D.2.1, D.2.2.1, D.2.2.2, n, e)) : C = D ∧ m = n ∧ d = e := by
 simp only [Prod.mk.injEq] at h
 obtain ⟨e1, e2, e3, e4, e5, e6⟩ := h
 exact ⟨Prod.ext e1 (Prod.ext e2 (Prod.ext e3 e4)), e5, e6⟩
theorem yJ6 {k : Nat} (hk : 200 ≤ k) {B : BT} (hb : yI B) {l : List zB} (hd : qS l) (hl : ∀ q ∈ l, yN B.1.length q) (h64 : l.length ≤ 64) (t : Int) (all : Bool) {X : BT} {mx dx : List zB}
  (hr : zHw k B.1 B.2.1 B.2.2.1 B.2.2.2 l t all = some (X.1, X.2.1, X.2.2.1, X.2.2.2, mx, dx)) : wN B X := by
 obtain ⟨C, m, d, f1, f2, f3, f4, f5⟩ := zXs hk hb hd (by omega) t
 have q1 := f2.keptC (by omega) hb
 have p1 := f2.perm hd
 have l1 := p1.length_eq
 rw [List.length_append] at l1
 unfold zHw at hr
 rw [f1] at hr
 simp only [vId] at hr
 cases all with
 | false =>
  simp only [vIj, vIe, Option.some.injEq] at hr
  rw [← (qB6 hr).1]; exact q1
 | true =>
  simp only [vIi, vIf] at hr
  have hm : qS m := List.Pairwise.sublist f5 hd
  have hlm : ∀ q ∈ m, yN C.1.length q := fun q hq => by rw [f4]; exact hl q (f5.subset hq)
  obtain ⟨D, n, x, g1, g2, g3, g4, g5, g6⟩ := qYf hk f3 hm hlm (by omega) t
  have q2 := yO8 hk f3 hlm (by omega) t g1
  have l2 := g5.length_eq
  rw [List.length_append] at l2
  rw [g1] at hr
  simp only [vId] at hr
  cases x with
  | nil =>
   obtain ⟨rfl, rfl⟩ := g6 rfl
   have hr' : some (D.1, D.2.1, D.2.2.1, D.2.2.2, n, d) = some (X.1, X.2.1, X.2.2.1, X.2.2.2, mx, dx) := hr
   rw [← (qB6 (Option.some.inj hr')).1]; exact q1
  | cons p x =>
   have e1 : decide ((((p :: x).length : Nat) : Int) = 0) = false := vH9 (by simp; omega)
   rw [e1] at hr
   simp only [vIf] at hr
   have hn : qS n := List.Pairwise.sublist g4 hm
   obtain ⟨E, o, y, k1, k2, k3, k4, k5⟩ := zXs hk g2 hn (by omega) t
   have q3 := k2.keptC (by omega) g2
   have p3 := k2.perm hn
   have l3 := p3.length_eq
   rw [List.length_append] at l3
   have r1 : zY (d.length + (p :: x).length) 56 = true := wA (by simp at l2 ⊢; omega) (by simp at l2 ⊢; omega)
   have r2 : zY ((d ++ (p :: x)).length + y.length) 56 = true := wA (by simp at l2 ⊢; omega) (by simp at l2 ⊢; omega)
   rw [k1] at hr
   simp only [vId, r1, r2, vIe] at hr
   have hr' : some (E.1, E.2.1, E.2.2.1, E.2.2.2, o, d ++ (p :: x) ++ y) = some (X.1, X.2.1, X.2.2.1, X.2.2.2, mx, dx) := hr
   rw [← (qB6 (Option.some.inj hr')).1]
   exact (q1.trans q2).trans q3
theorem yO3 {k : Nat} (hk : 200 ≤ k) {B : BT} (hb : yI B) {m : List zB} (hd : qS m) (hm : ∀ q ∈ m, yN B.1.length q) (h64 : m.length ≤ 64) (t : Int) (pr : List Int) (ho : List (List Int)) (ids : List Int) (to : Int) (ov all : Bool) :
  ∃ (C : BT) (m' d : List zB), zFs k t B.1 B.2.1 B.2.2.1 B.2.2.2 pr ho m ids to ov all = some (t, C.1, C.2.1, C.2.2.1, C.2.2.2, pr, ho, m', ids, to, ov, wV d) ∧
   zHw k B.1 B.2.1 B.2.2.1 B.2.2.2 m t all = some (C.1, C.2.1, C.2.2.1, C.2.2.2, m', d) ∧ yI C ∧ wN B C ∧ List.Sublist m' m ∧ List.Perm (d ++ m') m ∧ jL k C (wF m' t) = none := by
 obtain ⟨C, m', d, f1, f2, f3, f4, f5, f6, f7⟩ := qVl hk hb hd hm h64 t all
 have hlen := f5.length_eq
 rw [List.length_append] at hlen
 refine ⟨C, m', d, ?_, f1, f2, yJ6 hk hb hd hm h64 t all f1, f4, f5, f6⟩
 unfold zFs
 rw [f1]
 simp only [vId]
 rw [yGp (by omega) (by omega)]
 rfl
theorem yXb {k : Nat} (hk : 200 ≤ k) {B : BT} (hb : yI B) {m : List zB} (hd : qS m) (hm : ∀ q ∈ m, yN B.1.length q) (h64 : m.length ≤ 64) (pa : Int) (sa : List (Int × Int)) (cu cl pe t : Int) (ht : 0 ≤ t ∧ t < 1099511627776) (hpe : pe ≠ 0) (pr : List Int) (ho : List (List Int)) (ids : List Int) (to : Int) :
  ∃ (C : BT) (m' : List zB) (ov : Bool) (o : List vN), zNb k pa sa cu cl pe t B.1 B.2.1 B.2.2.1 B.2.2.2 pr ho m ids to false = some (t + 1, C.1, C.2.1, C.2.2.1, C.2.2.2, pr, ho, m', ids, to, ov, o) ∧ yX9 t cl B C m m' ov o ∧ wN B C ∧ (ov = false → jL k C (wF m' (t + 1)) = none) ∧
   ((ov = true ∧ m' = [] ∧ o = m.map (jA 22) ++ zC0 B B.1.length) ∨ ∃ l d n, o = l.map (jA 21) ++ wV d ∧ List.Perm (l ++ n) m ∧ List.Perm (d ++ m') n) := by
 have hn6 := hb.n6
 have w : zC (t + 1) = t + 1 := yH (by omega) (by omega)
 unfold zNb zSh
 simp only [w, vIf, vId]
 cases hc : decide (t + 1 = cl) with
 | true =>
  simp only [vIe]
  rw [yQb hn6 hk (by omega)]
  simp only [vId]
  refine ⟨B, [], true, _, rfl, ⟨hb, rfl, List.nil_sublist m, hc.symm, fun _ => rfl, (fun e => by cases e), (fun p hp => by cases hp), fun p hp _ => ?_, fun q hq => ?_, ?_⟩, wN.refl B, (fun e => by cases e), .inl ⟨rfl, rfl, rfl⟩⟩
  ·rw [zH1, (zKn (.inr rfl) hd).1 hp, qQq]
  ·rw [zH1, (zKn (.inr rfl) hd).2 hq, qQq]
  ·rw [List.length_append, List.length_map]
   unfold zC0
   rw [List.length_map, List.length_range]
   simp
   omega
 | false =>
  simp only [vIf]
  rw [yYk hk (by omega)]
  simp only [vId]
  have hs : ∃ x, zS1 k pa sa cu cl pe (t + 1) = some x := by
   unfold zS1
   cases decide (t + 1 > 0) with
   | false => exact ⟨_, rfl⟩
   | true =>
    cases decide (t + 1 < cl) with
    | false => exact ⟨_, rfl⟩
    | true =>
     have : decide (pe = 0) = false := vH9 hpe
     rw [this]
     exact ⟨_, rfl⟩
  obtain ⟨x, hx⟩ := hs
  rw [hx]
  simp only [vId]
  have hsub : List.Sublist (m.filter (fun p => !wC (t + 1) p)) m := List.filter_sublist
  have hsl := hsub.length_le
  have hdl : qS (m.filter (fun p => !wC (t + 1) p)) := List.Pairwise.sublist hsub hd
  obtain ⟨C, m', d, f1, f2, f3, f4, f5, f6, f7⟩ := qVl hk hb hdl (fun q hq => hm q (hsub.subset hq)) (by omega) (t + 1) x
  have hlen := f5.length_eq
  rw [List.length_append] at hlen
  have hSt : zFs k (t + 1) B.1 B.2.1 B.2.2.1 B.2.2.2 pr ho (m.filter (fun p => !wC (t + 1) p)) ids to false x = some (t + 1, C.1, C.2.1, C.2.2.1, C.2.2.2, pr, ho, m', ids, to, false, wV d) := by
   unfold zFs
   rw [f1]
   simp only [vId]
   rw [yGp (by omega) (by omega)]
   rfl
  rw [hSt]
  have hla : (m.filter (wC (t + 1))).length ≤ m.length := List.length_filter_le _ _
  have hpart : (m.filter (wC (t + 1))).length + (m.filter (fun p => !wC (t + 1) p)).length = m.length := by
   rw [← List.countP_eq_length_filter, ← List.countP_eq_length_filter]
   have := List.length_eq_countP_add_countP (wC (t + 1)) (l := m)
   simp only [Bool.not_eq_true, Bool.decide_eq_false] at this
   exact this.symm
  have htl := zV9 d
  have hr : zY (((m.filter (wC (t + 1))).map (jA 21)).length + (wV d).length) 64 = true := wA (by rw [List.length_map]; omega) (by rw [List.length_map]; omega)
  simp only [vId, hr, vIe]
  have hdd : qS (d ++ m') := hdl.perm f5
  have hdd1 : qS d := (List.pairwise_append.1 hdd).1
  have hdm : ∀ p ∈ d, p ∈ m.filter (fun p => !wC (t + 1) p) := fun p hp => f5.subset (List.mem_append_left _ hp)
  have hdmay : ∀ p ∈ d, yN B.1.length p := fun p hp => hm p (hsub.subset (hdm p hp))
  have hdla : qS (m.filter (wC (t + 1))) := hd.filter _
  have cross : ∀ p ∈ m, wC (t + 1) p = false → ∀ q ∈ m.filter (wC (t + 1)), q.1 ≠ p.1 := by
   intro p hp hl q hq e
   have h1 := List.mem_filter.1 hq
   have := hd.eq_of h1.1 hp e
   subst this
   rw [hl] at h1
   exact absurd h1.2 (by simp)
  refine ⟨C, m', false, _, rfl, ⟨f2, f3, f4.trans hsub, hc.symm, (fun e => by cases e), fun _ p hp => ?_, fun p hp => ?_, fun p hp hn => ?_, fun q hq => ?_, ?_⟩, yJ6 hk hb hdl (fun q hq => hm q (hsub.subset hq)) (by omega) (t + 1) x f1, (fun _ => f6), .inr ⟨m.filter (wC (t + 1)), d, m.filter (fun p => !wC (t + 1) p), rfl, List.filter_append_perm _ _, f5⟩⟩
  ·have := (List.mem_filter.1 (f4.subset hp)).2
   simpa using this
  ·have h1 := List.mem_filter.1 (f4.subset hp)
   have hl : wC (t + 1) p = false := by simpa using h1.2
   rw [zH1, (zKn (.inl rfl) hdla).2 (cross p h1.1 hl), (zYi hdd1 hdmay).2 (hdd.not_in (l := d) hp)]
  ·cases hl : wC (t + 1) p with
   | true =>
    have h1 : p ∈ m.filter (wC (t + 1)) := List.mem_filter.2 ⟨hp, hl⟩
    have h2 : ∀ q ∈ d, q.1 ≠ p.1 := by
     intro q hq e
     have h3 := List.mem_filter.1 (hdm q hq)
     have := hd.eq_of h3.1 hp e
     subst this
     have h4 := h3.2
     rw [hl] at h4
     cases h4
    rw [zH1, (zKn (.inl rfl) hdla).1 h1, (zYi hdd1 hdmay).2 h2]
   | false =>
    have h1 : p ∈ m.filter (fun p => !wC (t + 1) p) := List.mem_filter.2 ⟨hp, by rw [hl]; rfl⟩
    have h2 : p ∈ d := by
     rcases List.mem_append.1 (f5.symm.subset h1) with h | h
     ·exact h
     ·exact absurd h hn
    rw [zH1, (zKn (.inl rfl) hdla).2 (cross p hp hl), (zYi hdd1 hdmay).1 h2]
  ·rw [zH1, (zKn (.inl rfl) hdla).2 (fun p hp => hq p (List.mem_filter.1 hp).1), (zYi hdd1 hdmay).2 (fun p hp => hq p (hsub.subset (hdm p hp)))]
  ·rw [List.length_append, List.length_map]
   simp
   omega
end Go.Ab.Gi
