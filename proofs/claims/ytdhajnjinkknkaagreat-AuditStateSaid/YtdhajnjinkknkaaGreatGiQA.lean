/- Plain proofs, part 0. -/
import Derived.Test.YtdhajnjinkknkaaGreatGiAbC
import Derived.Test.YtdhajnjinkknkaaGreatGiXS
set_option linter.unusedVariables false
set_option linter.unusedSimpArgs false
set_option linter.unusedSectionVars false
set_option maxRecDepth 100000
namespace Go.Ab
theorem vMm {p : Prop} [Decidable p] (h : p) : decide p = true := decide_eq_true h
theorem vMn {p : Prop} [Decidable p] (h : ¬ p) : decide p = false := decide_eq_false h
theorem vMo {p : Prop} [Decidable p] (h : decide p = true) : p := of_decide_eq_true h
theorem vMp {p : Prop} [Decidable p] (h : decide p = false) : ¬ p := of_decide_eq_false h
theorem vMq {p : Prop} [Decidable p] : (decide p = true) = p := decide_eq_true_eq
theorem vMr {α β : Type} (a : α) (f : α → Option β) : (some a).bind f = f a := rfl
theorem vMs {α : Type} (a b : α) : cond true a b = a := rfl
theorem vMt {α : Type} (a b : α) : cond false a b = b := rfl
theorem vMu (n : Nat) : (n : Int).toNat = n := rfl
theorem vMv (a b : Bool) : ((a && b) = true) = (a = true ∧ b = true) := Bool.and_eq_true a b
theorem vMw : (!true) = false := rfl
theorem vMx : (!false) = true := rfl
end Go.Ab
namespace Go.Ab
theorem zU {x : Int} (h1 : -9223372036854775808 ≤ x) (h2 : x < 9223372036854775808) : zA x = x := by
 unfold zA IntKind.wrap
 simp only [IntKind.bits, IntKind.signed, Bool.true_and]
 by_cases h : x % 2 ^ 64 ≥ 2 ^ (64 - 1)
 ·rw [if_pos (by simpa using h)]; omega
 ·rw [if_neg (by simpa using h)]; omega
theorem qO {i N : Nat} (h : i < N) (hN : N < 9223372036854775808) : zA ((i : Int) + 1) = ((i + 1 : Nat) : Int) := by
 rw [zU (by omega) (by omega)]; rfl
theorem qH (i n : Nat) : zE (i : Int) n = decide (i < n) := by
 unfold zE
 simp
theorem zZ8 {i : Int} {n : Nat} (h0 : 0 ≤ i) (h1 : i < n) : zE i n = true := by
 unfold zE
 simp; omega
theorem vR {n b : Nat} (h : n * b ≤ 70368744177664) (h' : n ≤ 70368744177664) : qR n b = true := by
 unfold qR
 rw [Nat.ble_eq_true_of_le h, Nat.ble_eq_true_of_le h']; rfl
theorem zY (i n : Nat) : decide ((i : Int) < (n : Int)) = decide (i < n) := by simp
theorem zGu (i n : Nat) : decide ((i : Int) = (n : Int)) = decide (i = n) := by
 by_cases h : i = n
 ·subst h; simp
 ·rw [vMn h, vMn (by omega)]
def qI (p : Nat → Bool) : Nat → Nat → Bool
 | 0, _ => true
 | c + 1, i => p i && qI p c (i + 1)
theorem yMt {p : Nat → Bool} : ∀ {c i : Nat}, qI p c i = true ↔ ∀ j, i ≤ j → j < i + c → p j = true
 | 0, i => by simp [qI]; intro j h1 h2; omega
 | c + 1, i => by
  simp only [qI, vMv, yMt (c := c)]
  constructor
  ·rintro ⟨h1, h2⟩ j h3 h4
   by_cases e : j = i
   ·subst e; exact h1
   ·exact h2 j (by omega) (by omega)
  ·intro h
   exact ⟨h i (Nat.le_refl i) (by omega), fun j h1 h2 => h j (by omega) (by omega)⟩
theorem jU {p : Nat → Bool} {c : Nat} : qI p c 0 = true ↔ ∀ j, j < c → p j = true := by
 rw [yMt]
 exact ⟨fun h j hj => h j (Nat.zero_le j) (by omega), fun h j _ hj => h j (by omega)⟩
theorem qXq {X : Type} {L : Nat → Int → Option X} {N : Nat} (ok : Nat → Bool) (a b : X) (hend : ∀ n, L (n + 1) (N : Int) = some a)
  (hstep : ∀ n i, i < N → L (n + 1) (i : Int) = bif ok i then L n ((i + 1 : Nat) : Int) else some b) : ∀ c i n, i + c = N → c < n → L n (i : Int) = some (bif qI ok c i then a else b)
 | 0, i, n, h, hn => by
  obtain ⟨n, rfl⟩ : ∃ m, n = m + 1 := ⟨n - 1, by omega⟩
  have : i = N := by omega
  subst this
  exact hend n
 | c + 1, i, n, h, hn => by
  obtain ⟨n, rfl⟩ : ∃ m, n = m + 1 := ⟨n - 1, by omega⟩
  rw [hstep n i (by omega)]
  unfold qI
  cases ok i with
  | false => rfl
  | true =>
   simp only [vMs, Bool.true_and]
   exact qXq ok a b hend hstep c (i + 1) n (by omega) (by omega)
theorem zFr {X : Type} {L : Nat → Int → Option X} {N : Nat} (ok : Nat → Bool) (a b : X) (hend : ∀ n, L (n + 1) (N : Int) = some a)
  (hstep : ∀ n i, i < N → L (n + 1) (i : Int) = bif ok i then L n ((i + 1 : Nat) : Int) else some b) {n : Nat} (hn : N < n) : L n 0 = some (bif qI ok N 0 then a else b) :=
 qXq ok a b hend hstep N 0 n (by omega) hn
theorem yEz {L : Nat → Int → Option (Unit ⊕ Int)} {N : Nat} (bad : Nat → Bool) (hend : ∀ n, L (n + 1) (N : Int) = some (.inl ()))
  (hstep : ∀ n i, i < N → L (n + 1) (i : Int) = bif bad i then some (.inr (i : Int)) else L n ((i + 1 : Nat) : Int)) :
  ∀ c i n, i + c = N → c < n → (qI (fun j => !bad j) c i = true ∧ L n (i : Int) = some (.inl ())) ∨ ∃ x : Nat, i ≤ x ∧ x < N ∧ bad x = true ∧ (∀ j, i ≤ j → j < x → bad j = false) ∧ qI (fun j => !bad j) c i = false ∧ L n (i : Int) = some (.inr (x : Int))
 | 0, i, n, h, hn => by
  obtain ⟨n, rfl⟩ : ∃ m, n = m + 1 := ⟨n - 1, by omega⟩
  have : i = N := by omega
  subst this
  exact .inl ⟨rfl, hend n⟩
 | c + 1, i, n, h, hn => by
  obtain ⟨n, rfl⟩ : ∃ m, n = m + 1 := ⟨n - 1, by omega⟩
  rw [hstep n i (by omega)]
  unfold qI
  cases hb : bad i with
  | true => exact .inr ⟨i, Nat.le_refl i, by omega, hb, fun j h1 h2 => absurd h1 (by omega), rfl, rfl⟩
  | false =>
   simp only [vMt, vMx, Bool.true_and]
   rcases yEz bad hend hstep c (i + 1) n (by omega) (by omega) with h1 | ⟨x, x1, x2, x3, x4, x5, x6⟩
   ·exact .inl h1
   ·refine .inr ⟨x, by omega, x2, x3, fun j h1 h2 => ?_, x5, x6⟩
    by_cases e : j = i
    ·subst e; exact hb
    ·exact x4 j (by omega) h2
theorem zFb {L : Nat → Int → Option (Unit ⊕ Int)} {N : Nat} (bad : Nat → Bool) (hend : ∀ n, L (n + 1) (N : Int) = some (.inl ()))
  (hstep : ∀ n i, i < N → L (n + 1) (i : Int) = bif bad i then some (.inr (i : Int)) else L n ((i + 1 : Nat) : Int)) {n : Nat} (hn : N < n) :
  ∃ x : Unit ⊕ Int, L n 0 = some x ∧ decide ((match x with | .inl _ => (-1 : Int) | .inr y => y) ≥ 0) = !qI (fun j => !bad j) N 0 := by
 rcases yEz bad hend hstep N 0 n (by omega) hn with ⟨h1, h2⟩ | ⟨x, _, _, _, _, h5, h6⟩
 ·exact ⟨_, h2, by rw [h1]; rfl⟩
 ·exact ⟨_, h6, by rw [h5]; simp⟩
theorem qP8 {S X : Type} {L : Nat → Int → S → Option X} {N : Nat} (e : S → X) (inv : Nat → S → Prop) (hend : ∀ n s, inv N s → L (n + 1) (N : Int) s = some (e s))
  (hstep : ∀ n i s, i < N → inv i s → ∃ s', L (n + 1) (i : Int) s = L n ((i + 1 : Nat) : Int) s' ∧ inv (i + 1) s') :
  ∀ c i n s, i + c = N → c < n → inv i s → ∃ s', L n (i : Int) s = some (e s') ∧ inv N s'
 | 0, i, n, s, h, hn, hs => by
  obtain ⟨n, rfl⟩ : ∃ m, n = m + 1 := ⟨n - 1, by omega⟩
  have : i = N := by omega
  subst this
  exact ⟨s, hend n s hs, hs⟩
 | c + 1, i, n, s, h, hn, hs => by
  obtain ⟨n, rfl⟩ : ∃ m, n = m + 1 := ⟨n - 1, by omega⟩
  obtain ⟨s', h1, h2⟩ := hstep n i s (by omega) hs
  rw [h1]
  exact qP8 e inv hend hstep c (i + 1) n s' (by omega) (by omega) h2
theorem vO {S X : Type} {L : Nat → Int → S → Option X} {N : Nat} (e : S → X) (inv : Nat → S → Prop) (hend : ∀ n s, inv N s → L (n + 1) (N : Int) s = some (e s))
  (hstep : ∀ n i s, i < N → inv i s → ∃ s', L (n + 1) (i : Int) s = L n ((i + 1 : Nat) : Int) s' ∧ inv (i + 1) s') {n : Nat} {s : S} (hn : N < n) (hs : inv 0 s) :
  ∃ s', L n 0 s = some (e s') ∧ inv N s' := qP8 e inv hend hstep N 0 n s (by omega) hn hs
def zP {α : Type} (g : α → Int) : List α → Int
 | [] => 0
 | p :: l => g p + zP g l
theorem zAm {α : Type} (g : α → Int) : ∀ (l m : List α), zP g (l ++ m) = zP g l + zP g m
 | [], m => by simp [zP]
 | p :: l, m => by
  show g p + zP g (l ++ m) = g p + zP g l + zP g m
  rw [zAm g l m]; omega
theorem zJa {α : Type} {g : α → Int} {A : Int} : ∀ {l : List α}, (∀ p ∈ l, -A ≤ g p ∧ g p ≤ A) → -(l.length * A) ≤ zP g l ∧ zP g l ≤ l.length * A
 | [], _ => by simp [zP]
 | p :: l, h => by
  have h1 := h p (List.mem_cons_self ..)
  have h2 := zJa (l := l) fun q hq => h q (List.mem_cons_of_mem _ hq)
  have e : ((p :: l).length : Int) * A = (l.length : Int) * A + A := by
   rw [List.length_cons, Int.natCast_add, Int.add_mul]; simp
  rw [e]
  show -_ ≤ g p + zP g l ∧ g p + zP g l ≤ _
  omega
theorem zFy {α : Type} {g : α → Int} : ∀ {l : List α}, (∀ p ∈ l, 0 ≤ g p) → 0 ≤ zP g l
 | [], _ => by simp [zP]
 | p :: l, h => by
  have h1 := h p (List.mem_cons_self ..)
  have h2 := zFy (l := l) fun q hq => h q (List.mem_cons_of_mem _ hq)
  show 0 ≤ g p + zP g l
  omega
theorem yJk {α : Type} (g h : α → Int) : ∀ (l : List α), zP (fun p => g p + h p) l = zP g l + zP h l
 | [] => rfl
 | p :: l => by
  show g p + h p + zP _ l = g p + zP g l + (h p + zP h l)
  rw [yJk g h l]; omega
theorem qJ0 {α : Type} (g h : α → Int) : ∀ (l : List α), zP (fun p => g p - h p) l = zP g l - zP h l
 | [] => rfl
 | p :: l => by
  show g p - h p + zP _ l = g p + zP g l - (h p + zP h l)
  rw [qJ0 g h l]; omega
theorem zUl {α : Type} {g h : α → Int} : ∀ {l : List α}, (∀ p ∈ l, g p = h p) → zP g l = zP h l
 | [], _ => rfl
 | p :: l, e => by
  show g p + zP g l = h p + zP h l
  rw [e p (List.mem_cons_self ..), zUl fun q hq => e q (List.mem_cons_of_mem _ hq)]
def zW (g : Nat → Int) : Nat → Int
 | 0 => 0
 | n + 1 => zW g n + g n
theorem zHw (g h : Nat → Int) : ∀ n, zW (fun j => g j + h j) n = zW g n + zW h n
 | 0 => rfl
 | n + 1 => by
  show zW _ n + (g n + h n) = zW g n + g n + (zW h n + h n)
  rw [zHw g h n]; omega
theorem zBb {g h : Nat → Int} : ∀ {n : Nat}, (∀ j, j < n → g j = h j) → zW g n = zW h n
 | 0, _ => rfl
 | n + 1, e => by
  show zW g n + g n = zW h n + h n
  rw [zBb fun j hj => e j (by omega), e n (Nat.lt_succ_self n)]
theorem zHv (c : Int) (t : Nat) : ∀ n, zW (fun j => if j = t then c else 0) n = if t < n then c else 0
 | 0 => rfl
 | n + 1 => by
  show zW _ n + (if n = t then c else 0) = _
  rw [zHv c t n]
  by_cases h : t < n
  ·rw [if_pos h, if_neg (by omega), if_pos (by omega)]; omega
  ·by_cases h' : n = t
   ·rw [if_neg h, if_pos h', if_pos (by omega)]; omega
   ·rw [if_neg h, if_neg h', if_neg (by omega)]; omega
theorem qA4 : ∀ n, zW (fun _ => 0) n = 0
 | 0 => rfl
 | n + 1 => by show zW _ n + 0 = 0; rw [qA4 n]; rfl
theorem zGt {g : Nat → Int} {A : Int} (h : ∀ j, -A ≤ g j ∧ g j ≤ A) : ∀ n : Nat, -(n * A) ≤ zW g n ∧ zW g n ≤ n * A
 | 0 => by simp [zW]
 | n + 1 => by
  have h1 := h n
  have h2 := zGt h n
  have e : ((n + 1 : Nat) : Int) * A = (n : Int) * A + A := by
   rw [Int.natCast_add, Int.add_mul]; simp
  rw [e]
  show -_ ≤ zW g n + g n ∧ zW g n + g n ≤ _
  omega
theorem zVl {α : Type} (g : Nat → α → Int) (n : Nat) : ∀ l : List α, zW (fun j => zP (g j) l) n = zP (fun p => zW (fun j => g j p) n) l
 | [] => qA4 n
 | p :: l => by
  show zW (fun j => g j p + zP (g j) l) n = zW (fun j => g j p) n + zP _ l
  rw [zHw, zVl g n l]
theorem wH {α : Type} {l : List α} {i : Nat} {d : α} (h : i < l.length) : l.getD i d ∈ l := by
 rw [List.getD_eq_getElem?_getD, List.getElem?_eq_getElem h]
 exact List.getElem_mem h
theorem zAo {α : Type} (l : List α) (i : Nat) (d : α) (h : i < l.length) : l.take i ++ [l.getD i d] = l.take (i + 1) := by
 rw [List.take_add_one, List.getD_eq_getElem?_getD, List.getElem?_eq_getElem h]
 rfl
theorem wI {α : Type} (l : List α) (i j : Nat) (a d : α) : (l.set i a).getD j d = if i = j ∧ i < l.length then a else l.getD j d := by
 rw [List.getD_eq_getElem?_getD, List.getD_eq_getElem?_getD, List.getElem?_set]
 by_cases h : i = j
 ·subst h
  by_cases h' : i < l.length <;> simp [h']
 ·simp [h]
theorem zU3 {α : Type} {l m : List α} (d : α) (hl : l.length = m.length) (h : ∀ i, i < l.length → l.getD i d = m.getD i d) : l = m := by
 apply List.ext_getElem hl
 intro i h1 h2
 have := h i h1
 rwa [List.getD_eq_getElem?_getD, List.getD_eq_getElem?_getD, List.getElem?_eq_getElem h1, List.getElem?_eq_getElem h2] at this
theorem yOm (m : Nat) (hm : m ≤ 62) (x : Int) : qV .i64 x (2 ^ m - 1) = x % 2 ^ m := by
 unfold qV zE7
 have hp : (2 : Int) ^ m = ((2 ^ m : Nat) : Int) := by norm_cast
 have hle : 2 ^ m ≤ 2 ^ 62 := Nat.pow_le_pow_right (by omega) hm
 have hpos : 0 < 2 ^ m := Nat.two_pow_pos m
 have h62 : (2 : Nat) ^ 62 = 4611686018427387904 := rfl
 have e1 : (BitVec.ofInt IntKind.i64.bits x &&& BitVec.ofInt IntKind.i64.bits (2 ^ m - 1)).toNat = (x % 2 ^ m).toNat := by
  rw [BitVec.toNat_and, BitVec.toNat_ofInt, BitVec.toNat_ofInt]
  have e2 : ((2 : Int) ^ m - 1) % ((2 ^ IntKind.i64.bits : Nat) : Int) = ((2 ^ m - 1 : Nat) : Int) := by
   rw [hp]
   have : ((2 ^ m : Nat) : Int) - 1 = ((2 ^ m - 1 : Nat) : Int) := by omega
   rw [this]
   apply Int.emod_eq_of_lt (by omega)
   show ((2 ^ m - 1 : Nat) : Int) < ((2 ^ 64 : Nat) : Int)
   have : (2 : Nat) ^ 64 = 18446744073709551616 := rfl
   omega
  rw [e2, vMu, Nat.and_two_pow_sub_one_eq_mod]
  have hx : 0 ≤ x % ((2 ^ IntKind.i64.bits : Nat) : Int) := Int.emod_nonneg _ (by show ((2 ^ 64 : Nat) : Int) ≠ 0; decide)
  have e3 : x % 2 ^ m = (x % ((2 ^ IntKind.i64.bits : Nat) : Int)) % ((2 ^ m : Nat) : Int) := by
   rw [hp, Int.emod_emod_of_dvd]
   show ((2 ^ m : Nat) : Int) ∣ ((2 ^ 64 : Nat) : Int)
   exact Int.natCast_dvd_natCast.2 (Nat.pow_dvd_pow 2 (by omega))
  rw [e3]
  generalize x % ((2 ^ IntKind.i64.bits : Nat) : Int) = y at hx
  obtain ⟨y, rfl⟩ := Int.eq_ofNat_of_zero_le hx
  rw [vMu, ← Int.natCast_emod, vMu]
 rw [e1]
 have h0 : 0 ≤ x % 2 ^ m := Int.emod_nonneg _ (by omega)
 have h1 : x % 2 ^ m < 2 ^ m := Int.emod_lt_of_pos _ (by omega)
 rw [Int.toNat_of_nonneg h0]
 exact zU (by omega) (by omega)
end Go.Ab
namespace Go.Ab.Gi
open Go.Ab
def wR (l : List Int) : Int := zP (fun x => x) l
def zF5 (x : Int) : Bool := decide (-9223372036854775808 ≤ x) && decide (x < 9223372036854775808)
theorem yA1 (x : Int) : shr .i64 x 63 = x / 9223372036854775808 := by
 show x.fdiv (2 ^ (min 63 64)) = _
 rw [Int.fdiv_eq_ediv_of_nonneg _ (by decide)]
 rfl
theorem zC5 (x : Int) : IntKind.wrap .u64 x = x % 18446744073709551616 := by
 unfold IntKind.wrap
 simp only [IntKind.bits, IntKind.signed, Bool.false_and]
 rfl
theorem vFm {x : Int} (h : 0 ≤ x ∧ x < 18446744073709551616) : zA x = if x < 9223372036854775808 then x else x - 18446744073709551616 := by
 unfold zA IntKind.wrap
 simp only [IntKind.bits, IntKind.signed, Bool.true_and]
 by_cases c : x % 2 ^ 64 ≥ 2 ^ (64 - 1)
 ·rw [if_pos (by simpa using c)]
  split <;> omega
 ·rw [if_neg (by simpa using c)]
  split <;> omega
theorem yUz (l : List Int) (i : Nat) (hi : i < l.length) : wR (l.take (i + 1)) = wR (l.take i) + l.getD i 0 := by
 have : l.take (i + 1) = l.take i ++ [l.getD i 0] := by
  rw [List.take_add_one, List.getD_eq_getElem?_getD, List.getElem?_eq_getElem hi]
  rfl
 unfold wR
 rw [this, zAm]
 simp [zP]
theorem qD6 {k : Nat} {l : List Int} (hk : l.length < k) (hl : l.length ≤ 1000000) (hw : ∀ i, i < l.length → -9223372036854775808 ≤ l.getD i 0 ∧ l.getD i 0 < 9223372036854775808) :
  zHz k l = some (bif zF5 (wR l) then (wR l, true) else (0, false)) := by
 obtain ⟨s', g1, g2, g3, g4⟩ := vO (L := fun n i (s : Int × Int) => zMk k n s.1 s.2 l (l.length : Int) i) (N := l.length) (fun s => (s.1, s.2)) (fun i s => (0 ≤ s.2 ∧ s.2 < 18446744073709551616) ∧ s.1 * 18446744073709551616 + s.2 = wR (l.take i) ∧ (-(i : Int) ≤ s.1 ∧ s.1 ≤ i)) (fun n s _ => by
  show zK7 k _ s.1 s.2 l l.length l.length = _
  unfold zK7
  simp only [zY, vMn (Nat.lt_irrefl _), vMt]) (fun n i s hi hs => by
  obtain ⟨h, lo⟩ := s
  obtain ⟨⟨h1, h2⟩, h3, h4⟩ := hs
  simp only at h1 h2 h3 h4
  show ∃ s', zK7 k _ h lo l l.length i = _ ∧ _
  unfold zK7 zIf
  have hb := hw i hi
  have hsn := yUz l i hi
  obtain ⟨v, hv⟩ : ∃ v, l.getD i 0 = v := ⟨_, rfl⟩
  rw [hv] at hb hsn
  simp only [zY, qH, vMu, vMm hi, vMs, hv, zC5, yA1, decide_true, vMr, qO hi (show l.length < 9223372036854775808 by omega)]
  obtain ⟨u, hu⟩ : ∃ u, v % 18446744073709551616 = u := ⟨_, rfl⟩
  rw [hu]
  obtain ⟨q, hq⟩ : ∃ q, v / 9223372036854775808 = q := ⟨_, rfl⟩
  rw [hq]
  have hu' : u = v - q * 18446744073709551616 := by omega
  have hq' : q = 0 ∨ q = -1 := by omega
  obtain ⟨a, ha⟩ : ∃ a : Nat, lo.toNat + u.toNat + 0 = a := ⟨_, rfl⟩
  rw [ha]
  have ha' : (a : Int) = lo + u := by omega
  obtain ⟨c, hc⟩ : ∃ c : Nat, a / 18446744073709551616 = c := ⟨_, rfl⟩
  obtain ⟨m, hm⟩ : ∃ c : Nat, a % 18446744073709551616 = c := ⟨_, rfl⟩
  rw [hc, hm]
  have hcm : a = c * 18446744073709551616 + m := by omega
  have hm' : m < 18446744073709551616 := by omega
  have hc' : c ≤ 1 := by omega
  have e1 : zA (Int.ofNat c) = (c : Int) := zU (by show (_ : Int) ≤ ((c : Nat) : Int); omega) (by show ((c : Nat) : Int) < _; omega)
  have e2 : zA (q + (c : Int)) = q + c := zU (by omega) (by omega)
  have e3 : zA (h + (q + (c : Int))) = h + (q + c) := zU (by omega) (by omega)
  rw [e1, e2, e3]
  refine ⟨(h + (q + c), (m : Int)), rfl, ⟨by show (0 : Int) ≤ (m : Int); omega, by show (m : Int) < _; omega⟩, ?_, ?_⟩
  ·rw [hsn]
   show (h + (q + c)) * 18446744073709551616 + (m : Int) = _
   omega
  ·show -((i + 1 : Nat) : Int) ≤ h + (q + c) ∧ h + (q + c) ≤ ((i + 1 : Nat) : Int)
   omega) (s := (0, 0)) hk ⟨⟨by show (0 : Int) ≤ 0; omega, by show (0 : Int) < _; omega⟩, rfl, by show -((0 : Nat) : Int) ≤ 0; omega, by show (0 : Int) ≤ ((0 : Nat) : Int); omega⟩
 have g1' : zMk k k 0 0 l (l.length : Int) 0 = some (s'.1, s'.2) := g1
 rw [List.take_length] at g3
 unfold zHz
 rw [g1']
 simp only [vMr, yA1]
 rw [vFm g2]
 by_cases c : zF5 (wR l) = true
 ·have c' : -9223372036854775808 ≤ wR l ∧ wR l < 9223372036854775808 := by simpa [zF5] using c
  rw [c]
  by_cases d : s'.2 < 9223372036854775808
  ·rw [if_pos d, vMm (show s'.1 = s'.2 / 9223372036854775808 by omega)]
   simp only [vMw, vMt, vMs]
   rw [show s'.2 = wR l by omega]
  ·rw [if_neg d, vMm (show s'.1 = (s'.2 - 18446744073709551616) / 9223372036854775808 by omega)]
   simp only [vMw, vMt, vMs]
   rw [show s'.2 - 18446744073709551616 = wR l by omega]
 ·have c' : ¬ (-9223372036854775808 ≤ wR l ∧ wR l < 9223372036854775808) := by simpa [zF5] using c
  rw [Bool.not_eq_true] at c
  rw [c]
  by_cases d : s'.2 < 9223372036854775808
  ·rw [if_pos d, vMn (show ¬ s'.1 = s'.2 / 9223372036854775808 by omega)]
   rfl
  ·rw [if_neg d, vMn (show ¬ s'.1 = (s'.2 - 18446744073709551616) / 9223372036854775808 by omega)]
   rfl
abbrev zVg : Type := Int × Int × Int
abbrev Mtx : Type := List (List Int)
def vE (p : Mtx) (i j : Nat) : Int := (p.getD i []).getD j 0
theorem qEw {S X : Type} {L : Nat → Int → S → Option X} {N : Nat} (ok : Nat → Bool) (e : S → X) (b : X) (inv : Nat → S → Prop) (hend : ∀ n s, inv N s → L (n + 1) (N : Int) s = some (e s))
  (hstep : ∀ n i s, i < N → inv i s → (ok i = true → ∃ s', L (n + 1) (i : Int) s = L n ((i + 1 : Nat) : Int) s' ∧ inv (i + 1) s') ∧ (ok i = false → L (n + 1) (i : Int) s = some b)) :
  ∀ c i n s, i + c = N → c < n → inv i s → (qI ok c i = true ∧ ∃ s', L n (i : Int) s = some (e s') ∧ inv N s') ∨ (qI ok c i = false ∧ L n (i : Int) s = some b)
 | 0, i, n, s, h, hn, hs => by
  obtain ⟨n, rfl⟩ : ∃ m, n = m + 1 := ⟨n - 1, by omega⟩
  have : i = N := by omega
  subst this
  exact .inl ⟨rfl, s, hend n s hs, hs⟩
 | c + 1, i, n, s, h, hn, hs => by
  obtain ⟨n, rfl⟩ : ∃ m, n = m + 1 := ⟨n - 1, by omega⟩
  obtain ⟨h1, h2⟩ := hstep n i s (by omega) hs
  unfold qI
  cases ho : ok i with
  | true =>
   obtain ⟨s', h3, h4⟩ := h1 ho
   rw [h3]
   simp only [Bool.true_and]
   exact qEw ok e b inv hend hstep c (i + 1) n s' (by omega) (by omega) h4
  | false => exact .inr ⟨rfl, h2 ho⟩
def zKm (p : Mtx) : Bool := qI (fun i => decide ((p.getD i []).length = p.length)) p.length 0
def zN5 (p : Mtx) : Bool := qI (fun i => qI (fun j => decide (vE p j i = - vE p i j)) p.length 0) p.length 0
theorem yPb {k : Nat} {p : Mtx} (hk : p.length < k) (hl : p.length < 9223372036854775808) (a : List zVg) (b : Mtx) (m : List Int) : zTh k p a b m p = some (!zKm p) := by
 obtain ⟨x, h1, h2⟩ := zFb (L := fun c i => zQy k c p p.length i a b m p) (N := p.length) (fun i => !decide ((p.getD i []).length = p.length)) (fun c => by
  show zKo k _ p p.length p.length a b m p = _
  unfold zKo
  simp only [zY, vMn (Nat.lt_irrefl _), vMt]) (fun c i hi => by
  show zKo k _ p p.length i a b m p = _
  unfold zKo qH8
  simp only [qH, qO hi hl, zY, zGu, vMu, vMm hi, vMs, vMr]) hk
 unfold zTh qIx
 rw [h1]
 simp only [Bool.not_not] at h2
 show _ = some (!qI (fun i => decide ((p.getD i []).length = p.length)) p.length 0)
 rw [← h2]
 cases x <;> rfl
section
variable {k : Nat} {p : Mtx} (hk : 500 ≤ k) (h20 : p.length ≤ 20) (hsq : ∀ i, i < p.length → (p.getD i []).length = p.length) (hb : ∀ i, i < p.length → ∀ j, j < p.length → -1152921504606846976 ≤ vE p i j ∧ vE p i j ≤ 1152921504606846976)
include hk h20 hsq hb
theorem ySw (a : List zVg) (b : Mtx) (m : List Int) {i : Nat} (hi : i < p.length) {r : List Int} (hr : r.length ≤ 1000) :
  (qI (fun j => decide (vE p j i = - vE p i j)) p.length 0 = true ∧ zDm k k i p p.length i (p.getD i []) p.length 0 a b m p r = some (.inl (p, p.length, i, a, b, m, p, r ++ p.getD i []))) ∨
  (qI (fun j => decide (vE p j i = - vE p i j)) p.length 0 = false ∧ zDm k k i p p.length i (p.getD i []) p.length 0 a b m p r = some (.inr false)) := by
 have hrow := hsq i hi
 rcases qEw (L := fun n j (s : List Int) => zDm k n i p p.length i (p.getD i []) p.length j a b m p s) (N := p.length) (fun j => decide (vE p j i = - vE p i j)) (fun s => .inl (p, (p.length : Int), (i : Int), a, b, m, p, s)) (.inr false) (fun j s => s = r ++ (p.getD i []).take j) (fun n s _ => by
  show zGs k _ i p p.length i (p.getD i []) p.length p.length a b m p s = _
  unfold zGs
  simp only [zY, vMn (Nat.lt_irrefl _), vMt]) (fun n j s hj hs => by
  have hjr := hsq j hj
  have hc := hb i hi j hj
  have hw : zA (0 - vE p i j) = - vE p i j := by rw [zU (by omega) (by omega)]; omega
  unfold vE at hw
  have hrm : qR (s.length + 1) 8 = true := by
   have : s.length ≤ 1020 := by rw [hs, List.length_append, List.length_take]; omega
   exact vR (by omega) (by omega)
  have key : zGs k (zDm k n) i p p.length i (p.getD i []) p.length j a b m p s = bif decide (vE p j i = - vE p i j) then zDm k n i p p.length i (p.getD i []) p.length ((j + 1 : Nat) : Int) a b m p (s ++ [vE p i j]) else some (.inr false) := by
   unfold zGs vE
   simp only [qH, qO hj (show p.length < 9223372036854775808 by omega), zY, vMu, vMm hj, hrow, hjr, vMm hi, vMs, hw, hrm]
   cases decide ((p.getD j []).getD i 0 = -(p.getD i []).getD j 0) <;> rfl
  refine ⟨fun ho => ⟨s ++ [vE p i j], ?_, ?_⟩, fun ho => ?_⟩
  ·show zGs k (zDm k n) i p p.length i (p.getD i []) p.length j a b m p s = _
   rw [key, ho]
   rfl
  ·rw [hs, List.append_assoc]
   congr 1
   rw [List.take_add_one, List.getElem?_eq_getElem (by omega)]
   unfold vE
   rw [List.getD_eq_getElem?_getD (l := p.getD i []), List.getElem?_eq_getElem (by omega)]
   rfl
  ·show zGs k (zDm k n) i p p.length i (p.getD i []) p.length j a b m p s = _
   rw [key, ho]
   rfl) p.length 0 k r (by omega) (by omega) (by simp) with ⟨h1, s', h2, h3⟩ | ⟨h1, h2⟩
 ·refine .inl ⟨h1, ?_⟩
  rw [← hrow, List.take_length] at h3
  subst h3
  exact h2
 ·exact .inr ⟨h1, h2⟩
theorem vIs (a : List zVg) (b : Mtx) (m : List Int) :
  (zN5 p = true ∧ zDf k k p p.length 0 a b m p [] = some (.inl p.flatten)) ∨ (zN5 p = false ∧ zDf k k p p.length 0 a b m p [] = some (.inr false)) := by
 rcases qEw (L := fun n i (s : List Int) => zDf k n p p.length i a b m p s) (N := p.length) (fun i => qI (fun j => decide (vE p j i = - vE p i j)) p.length 0) (fun s => .inl s) (.inr false) (fun i s => s = (p.take i).flatten ∧ s.length = i * p.length) (fun n s _ => by
  show zG1 k _ p p.length p.length a b m p s = _
  unfold zG1
  simp only [zY, vMn (Nat.lt_irrefl _), vMt]) (fun n i s hi hs => by
  have hrow := hsq i hi
  have hlen : s.length ≤ 1000 := by
   rw [hs.2]
   have : i * p.length ≤ 20 * 20 := Nat.mul_le_mul (by omega) h20
   omega
  have hz := ySw hk h20 hsq hb a b m hi hlen
  have key : zG1 k (zDf k n) p p.length i a b m p s = bif qI (fun j => decide (vE p j i = - vE p i j)) p.length 0 then zDf k n p p.length ((i + 1 : Nat) : Int) a b m p (s ++ p.getD i []) else some (.inr false) := by
   unfold zG1
   simp only [qH, zY, vMu, vMm hi, vMs, hrow]
   rcases hz with ⟨h1, h2⟩ | ⟨h1, h2⟩
   ·rw [h1, h2]
    simp only [vMr, qO hi (show p.length < 9223372036854775808 by omega)]
    rfl
   ·rw [h1, h2]
    rfl
  refine ⟨fun ho => ⟨s ++ p.getD i [], ?_, ?_, ?_⟩, fun ho => ?_⟩
  ·show zG1 k (zDf k n) p p.length i a b m p s = _
   rw [key, ho]
   rfl
  ·rw [hs.1, List.take_add_one, List.getElem?_eq_getElem hi, List.flatten_append, List.getD_eq_getElem?_getD, List.getElem?_eq_getElem hi]
   simp
  ·rw [List.length_append, hs.2, hrow, Nat.add_mul, Nat.one_mul]
  ·show zG1 k (zDf k n) p p.length i a b m p s = _
   rw [key, ho]
   rfl) p.length 0 k [] (by omega) (by omega) ⟨by simp, by simp⟩ with ⟨h1, s', h2, h3, h4⟩ | ⟨h1, h2⟩
 ·refine .inl ⟨h1, ?_⟩
  rw [List.take_length] at h3
  subst h3
  exact h2
 ·exact .inr ⟨h1, h2⟩
end
theorem qPc (g : Nat → Int) : ∀ n, zW (fun j => - g j) n = - zW g n
 | 0 => rfl
 | n + 1 => by
  show zW _ n + - g n = -(zW g n + g n)
  rw [qPc g n]; omega
theorem yFw (g : Nat → Nat → Int) (m : Nat) : ∀ n, zW (fun i => zW (fun j => g i j) m) n = zW (fun j => zW (fun i => g i j) n) m
 | 0 => (qA4 m).symm
 | n + 1 => by
  show zW _ n + zW _ m = zW (fun j => zW (fun i => g i j) n + g n j) m
  rw [yFw g m n, zHw]
theorem qDb {α : Type} (f : α → Int) (d : α) : ∀ (l : List α) (n : Nat), n ≤ l.length → zP f (l.take n) = zW (fun i => f (l.getD i d)) n
 | l, 0, _ => by simp [zP, zW]
 | l, n + 1, h => by
  show _ = zW _ n + _
  rw [← qDb f d l n (by omega)]
  have : l.take (n + 1) = l.take n ++ [l.getD n d] := by
   rw [List.take_add_one, List.getD_eq_getElem?_getD, List.getElem?_eq_getElem (by omega)]
   rfl
  rw [this, zAm]
  simp [zP]
theorem yCg : ∀ p : Mtx, wR p.flatten = zP wR p
 | [] => rfl
 | r :: p => by
  show zP _ (r ++ p.flatten) = wR r + zP wR p
  rw [zAm, ← yCg p]
  rfl
theorem yUp {p : Mtx} (hsq : ∀ i, i < p.length → (p.getD i []).length = p.length) (ha : zN5 p = true) : wR p.flatten = 0 := by
 have h1 : wR p.flatten = zW (fun i => zW (fun j => vE p i j) p.length) p.length := by
  rw [yCg]
  have := qDb wR [] p p.length (Nat.le_refl _)
  rw [List.take_length] at this
  rw [this]
  refine zBb fun i hi => ?_
  have h2 := qDb (fun x => x) 0 (p.getD i []) (p.getD i []).length (Nat.le_refl _)
  rw [List.take_length, hsq i hi] at h2
  exact h2
 have h2 : zW (fun i => zW (fun j => vE p i j) p.length) p.length = zW (fun i => zW (fun j => vE p j i) p.length) p.length := yFw _ _ _
 have h3 : zW (fun i => zW (fun j => vE p j i) p.length) p.length = zW (fun i => - zW (fun j => vE p i j) p.length) p.length := by
  refine zBb fun i hi => ?_
  rw [← qPc]
  refine zBb fun j hj => ?_
  have := jU.1 (jU.1 ha i hi) j hj
  simpa using this
 rw [qPc] at h3
 omega
def qC0 (p : Mtx) : Prop := p.length ≤ 20 ∧ ∀ i, i < p.length → ∀ j, j < p.length → j < (p.getD i []).length → -1152921504606846976 ≤ vE p i j ∧ vE p i j ≤ 1152921504606846976
theorem yIc {p : Mtx} : zKm p = true ↔ ∀ i, i < p.length → (p.getD i []).length = p.length := by
 unfold zKm
 rw [jU]
 simp
theorem yT8 {p : Mtx} (hw : qC0 p) (hsq : ∀ i, i < p.length → (p.getD i []).length = p.length) : ∀ i, i < p.length → ∀ j, j < p.length → -1152921504606846976 ≤ vE p i j ∧ vE p i j ≤ 1152921504606846976 :=
 fun i hi j hj => hw.2 i hi j hj (by rw [hsq i hi]; exact hj)
theorem yXs {p : Mtx} {A : Int} (hA : 0 ≤ A) (h : ∀ i, i < p.length → ∀ j, j < (p.getD i []).length → -A ≤ (p.getD i []).getD j 0 ∧ (p.getD i []).getD j 0 ≤ A) (i : Nat) : -A ≤ p.flatten.getD i 0 ∧ p.flatten.getD i 0 ≤ A := by
 by_cases hi : i < p.flatten.length
 ·have hm : p.flatten.getD i 0 ∈ p.flatten := by
   rw [List.getD_eq_getElem?_getD, List.getElem?_eq_getElem hi]
   exact List.getElem_mem hi
  obtain ⟨r, hr, hx⟩ := List.mem_flatten.1 hm
  obtain ⟨a, ha, e⟩ := List.mem_iff_getElem.1 hr
  obtain ⟨b, hb, e'⟩ := List.mem_iff_getElem.1 hx
  have hrow : p.getD a [] = r := by rw [List.getD_eq_getElem?_getD, List.getElem?_eq_getElem ha]; exact e
  have := h a ha b (by rw [hrow]; exact hb)
  rw [hrow, List.getD_eq_getElem?_getD (l := r), List.getElem?_eq_getElem hb] at this
  rw [← e']
  exact this
 ·rw [List.getD_eq_getElem?_getD, List.getElem?_eq_none (by omega)]
  show -A ≤ 0 ∧ (0 : Int) ≤ A
  omega
theorem vD2 {p : Mtx} {N : Nat} (h : ∀ r ∈ p, r.length = N) : p.flatten.length = p.length * N := by
 induction p with
 | nil => simp
 | cons r p ih =>
  rw [List.flatten_cons, List.length_append, List.length_cons, ih fun q hq => h q (List.mem_cons_of_mem _ hq), h r (List.mem_cons_self ..), Nat.add_mul]
  omega
theorem yR7 {k : Nat} (hk : 500 ≤ k) {p : Mtx} (hw : qC0 p) (a : List zVg) (b : Mtx) (m : List Int) : zIg k a b m p = some (zKm p && zN5 p) := by
 have h20 := hw.1
 unfold zIg
 rw [yPb (by omega) (by omega)]
 cases hs : zKm p with
 | false => rfl
 | true =>
  have hsq := yIc.1 hs
  have hb := yT8 hw hsq
  simp only [vMr, vMw, vMt, Bool.true_and]
  rcases vIs hk h20 hsq hb a b m with ⟨h1, h2⟩ | ⟨h1, h2⟩
  ·rw [h1, h2]
   simp only [vMr]
   have hz := yUp hsq h1
   have hfl : p.flatten.length = p.length * p.length := vD2 fun r hr => by
    obtain ⟨i, hi, e⟩ := List.mem_iff_getElem.1 hr
    have := hsq i hi
    rw [List.getD_eq_getElem?_getD, List.getElem?_eq_getElem hi] at this
    rw [← e]
    exact this
   have h400 : p.length * p.length ≤ 20 * 20 := Nat.mul_le_mul h20 h20
   rw [qD6 (l := p.flatten) (by omega) (by omega) (fun i hi => by
    have := yXs (p := p) (A := 1152921504606846976) (by omega) (fun i hi j hj => hb i hi j (by rw [← hsq i hi]; exact hj)) i
    omega), hz]
   rfl
  ·rw [h1, h2]
   rfl
abbrev qM := Int × Int × Int
abbrev zB := Int × Int × Int × Int × Int × Int × Int
def jH (a : qM) : Bool := decide (a.1 > -4611686018427387904) && (decide (a.1 < 4611686018427387904) && (decide (a.2.1 ≥ 0) && (decide (a.2.1 ≤ 2305843009213693952) && (decide (a.2.2 ≥ 0) && decide (a.2.2 ≤ 2305843009213693952)))))
def vW (n : Int) : Bool := decide (n ≥ -1) && decide (n ≤ 2305843009213693952)
def jY (n : Int) : Bool := decide (n > -72057594037927936) && decide (n < 72057594037927936)
def cell (m : List (List Int)) (i j : Nat) : Int := (m.getD i []).getD j 0
def sqL (n : Nat) (m : List (List Int)) : Bool := decide (m.length = n) && qI (fun i => decide ((m.getD i []).length = n)) n 0
def zDb (p : Int → Bool) (n : Nat) (m : List (List Int)) : Bool := qI (fun i => qI (fun j => p (cell m i j)) n 0) n 0
def zEt (n : Nat) (m : List (List Int)) : Bool := qI (fun i => qI (fun j => decide (cell m i j = zA (0 - cell m j i))) n 0) n 0
def isB (accts : List qM) (bil : List (List Int)) (mul : List Int) (pos : List (List Int)) : Bool :=
 let n := accts.length
 decide (1 ≤ n) && (decide (n ≤ 6) && (sqL n bil && (sqL n pos && (decide (mul.length = n) && (qI (fun i => jH (accts.getD i (0, 0, 0))) n 0 && (qI (fun i => vW (mul.getD i 0)) n 0 && (zDb vW n bil && (zDb jY n pos && zEt n pos))))))))
theorem qT4 (k : Nat) (b c r : Int) : zX5 k b c r = some (jH (b, c, r)) := by
 unfold zX5 jH
 cases decide (b > -4611686018427387904) <;> cases decide (b < 4611686018427387904) <;> cases decide (c ≥ 0) <;> cases decide (c ≤ 2305843009213693952) <;> cases decide (r ≥ 0) <;> rfl
theorem yMv (k : Nat) (b c r : Int) : qAg k b c r = some (jH (b, c, r)) := qT4 k b c r
theorem qDp (k : Nat) (n : Int) : zSj k n = some (vW n) := by
 unfold zSj vW
 cases decide (n ≥ -1) <;> rfl
theorem yP5 (k : Nat) (n : Int) : qEr k n = some (vW n) := qDp k n
theorem vF3 (k : Nat) (n : Int) : zVy k n = some (jY n) := by
 unfold zVy jY
 cases decide (n > -72057594037927936) <;> rfl
theorem yBo {k : Nat} {n : Nat} (hk : n < k) (hn : n ≤ 1000) (m : List (List Int)) : zQ9 k m n = some (sqL n m) := by
 unfold zQ9 sqL
 simp only [zGu]
 by_cases h : m.length = n
 ·have := zFr (L := fun c i => zRt k c m n i) (N := n) (fun i => decide ((m.getD i []).length = n)) (.inl ()) (.inr false) (fun c => by
    show zNv k _ m n n = _
    unfold zNv
    simp only [zY, vMn (Nat.lt_irrefl n), vMt]) (fun c i hi => by
    show zNv k _ m n i = _
    unfold zNv
    simp only [qH, qO hi (by omega), zY, zGu, vMu, h, vMm hi, vMs]
    cases decide ((m.getD i []).length = n) <;> rfl) hk
  simp only [h, decide_true, vMw, vMt, Bool.true_and]
  rw [this]
  generalize qI _ _ _ = r
  cases r <;> rfl
 ·simp only [vMn h, vMx, vMs, Bool.false_and]
theorem yPm {k : Nat} {N i : Nat} (hk : N < k) (hN : N ≤ 1000) (hi : i < N) {a : List qM} {b p : List (List Int)} {m : List Int} (hb : b.length = N) (hp : p.length = N) (hbr : ∀ j, j < N → (b.getD j []).length = N) (hpr : ∀ j, j < N → (p.getD j []).length = N) :
  zKc k k N i 0 a b m p = some (bif qI (fun j => vW (cell b i j) && (jY (cell p i j) && decide (cell p i j = zA (0 - cell p j i)))) N 0 then .inl ((N : Int), (i : Int), a, b, m, p) else .inr false) := by
 refine zFr (L := fun c j => zKc k c N i j a b m p) (N := N) _ (.inl ((N : Int), (i : Int), a, b, m, p)) (.inr false) (fun c => ?_) (fun c j hj => ?_) hk
 ·show zJ1 k _ N i N a b m p = _
  unfold zJ1
  simp only [zY, vMn (Nat.lt_irrefl N), vMt]
 ·show zJ1 k _ N i j a b m p = _
  unfold zJ1
  simp only [qH, qO hj (by omega), zY, vMu, hb, hp, hbr i hi, hpr i hi, hpr j hj, vMm hj, vMm hi, vMs, qDp, vMr, jY]
  show (bif !vW (cell b i j) then _ else bif decide (cell p i j ≤ _) then _ else bif decide (cell p i j ≥ _) then _ else bif !decide (cell p i j = _) then _ else _) = _
  have e1 : decide (cell p i j ≤ -72057594037927936) = !decide (cell p i j > -72057594037927936) := by
   by_cases h : cell p i j ≤ -72057594037927936
   ·rw [vMm h, vMn (by omega)]; rfl
   ·rw [vMn h, vMm (by omega)]; rfl
  have e2 : decide (cell p i j ≥ 72057594037927936) = !decide (cell p i j < 72057594037927936) := by
   by_cases h : cell p i j ≥ 72057594037927936
   ·rw [vMm h, vMn (by omega)]; rfl
   ·rw [vMn h, vMm (by omega)]; rfl
  rw [e1, e2]
  show (bif !vW (cell b i j) then _ else bif _ then _ else bif _ then _ else bif !decide (cell p i j = zA (0 - cell p j i)) then _ else _) = _
  cases vW (cell b i j) <;> cases decide (cell p i j > -72057594037927936) <;> cases decide (cell p i j < 72057594037927936) <;> cases decide (cell p i j = zA (0 - cell p j i)) <;> rfl
theorem yQ1 {k : Nat} {N : Nat} (hk : N < k) (hN : N ≤ 1000) {a : List qM} {b p : List (List Int)} {m : List Int} (ha : a.length = N) (hm : m.length = N) (hb : b.length = N) (hp : p.length = N) (hbr : ∀ j, j < N → (b.getD j []).length = N) (hpr : ∀ j, j < N → (p.getD j []).length = N) :
  zNo k k N 0 a b m p = some (bif qI (fun i => jH (a.getD i (0, 0, 0)) && (vW (m.getD i 0) && qI (fun j => vW (cell b i j) && (jY (cell p i j) && decide (cell p i j = zA (0 - cell p j i)))) N 0)) N 0 then .inl () else .inr false) := by
 refine zFr (L := fun c j => zNo k c N j a b m p) (N := N) _ (.inl ()) (.inr false) (fun c => ?_) (fun c i hi => ?_) hk
 ·show zLd k _ N N a b m p = _
  unfold zLd
  simp only [zY, vMn (Nat.lt_irrefl N), vMt]
 ·show zLd k _ N i a b m p = _
  unfold zLd
  simp only [qH, zY, vMu, ha, hm, vMm hi, vMs, qDp, qT4, vMr, yPm hk hN hi hb hp hbr hpr]
  generalize qI _ N 0 = r
  show (bif !jH (a.getD i (0, 0, 0)) then _ else _) = _
  cases jH (a.getD i (0, 0, 0)) <;> cases vW (m.getD i 0) <;> cases r <;> simp only [vMw, vMx, vMs, vMt, Bool.and_true, Bool.and_false, Bool.true_and, Bool.false_and, qO hi (show N < 9223372036854775808 by omega)]
theorem qQc {k : Nat} (hk : 10 < k) (a : List qM) (b : List (List Int)) (m : List Int) (p : List (List Int)) : zH0 k a b m p = some (isB a b m p) := by
 unfold zH0
 have l1 : decide ((a.length : Int) < 1) = !decide (1 ≤ a.length) := by
  by_cases h : 1 ≤ a.length
  ·rw [vMm h, vMn (by omega)]; rfl
  ·rw [vMn h, vMm (by omega)]; rfl
 have l2 : decide ((a.length : Int) > 6) = !decide (a.length ≤ 6) := by
  by_cases h : a.length ≤ 6
  ·rw [vMm h, vMn (by omega)]; rfl
  ·rw [vMn h, vMm (by omega)]; rfl
 rw [l1, l2]
 unfold isB
 dsimp only
 by_cases h1 : 1 ≤ a.length
 case neg => rw [vMn h1]; rfl
 by_cases h2 : a.length ≤ 6
 case neg => rw [vMm h1, vMn h2]; rfl
 rw [vMm h1, vMm h2]
 simp only [vMw, vMt, Bool.true_and]
 rw [yBo (by omega) (by omega), yBo (by omega) (by omega)]
 simp only [vMr, zGu]
 cases hb : sqL a.length b with
 | false => rfl
 | true =>
  cases hp : sqL a.length p with
  | false => rfl
  | true =>
   by_cases hm : m.length = a.length
   case neg => simp only [vMn hm]; rfl
   simp only [sqL, vMv, vMq, jU] at hb hp
   simp only [hm, decide_true, vMw, vMt, Bool.true_and]
   rw [yQ1 (by omega) (by omega) rfl hm hb.1 hp.1 hb.2 hp.2]
   have e : (qI (fun i => jH (a.getD i (0, 0, 0))) a.length 0 && (qI (fun i => vW (m.getD i 0)) a.length 0 && (zDb vW a.length b && (zDb jY a.length p && zEt a.length p)))) =
     qI (fun i => jH (a.getD i (0, 0, 0)) && (vW (m.getD i 0) && qI (fun j => vW (cell b i j) && (jY (cell p i j) && decide (cell p i j = zA (0 - cell p j i)))) a.length 0)) a.length 0 := by
    rw [Bool.eq_iff_iff]
    simp only [zDb, zEt, vMv, jU]
    constructor
    ·rintro ⟨h1, h2, h3, h4, h5⟩ i hi
     exact ⟨h1 i hi, h2 i hi, fun j hj => ⟨h3 i hi j hj, h4 i hi j hj, h5 i hi j hj⟩⟩
    ·intro h
     exact ⟨fun i hi => (h i hi).1, fun i hi => (h i hi).2.1, fun i hi j hj => ((h i hi).2.2 j hj).1, fun i hi j hj => ((h i hi).2.2 j hj).2.1, fun i hi j hj => ((h i hi).2.2 j hj).2.2⟩
   rw [e]
   generalize qI _ _ _ = r
   cases r <;> rfl
theorem yWk {k : Nat} {a : List qM} (hk : a.length < k) (hl : a.length < 9223372036854775808) : zX3 k a = some (!qI (fun i => jH (a.getD i (0, 0, 0))) a.length 0) := by
 obtain ⟨x, h1, h2⟩ := zFb (L := fun c i => zOs k c a a.length i) (N := a.length) (fun i => !jH (a.getD i (0, 0, 0))) (fun c => by
  show zLu k _ a a.length a.length = _
  unfold zLu
  simp only [zY, vMn (Nat.lt_irrefl _), vMt]) (fun c i hi => by
  show zLu k _ a a.length i = _
  unfold zLu qI7
  simp only [qH, qO hi hl, zY, vMu, vMm hi, vMs, yMv, vMr]) hk
 unfold zX3 qCi
 rw [h1]
 simp only [Bool.not_not] at h2
 rw [← h2]
 cases x <;> rfl
theorem yVb {k : Nat} {a : List Int} (hk : a.length < k) (hl : a.length < 9223372036854775808) : zXw k a = some (!qI (fun i => vW (a.getD i 0)) a.length 0) := by
 obtain ⟨x, h1, h2⟩ := zFb (L := fun c i => zSv k c a a.length i) (N := a.length) (fun i => !vW (a.getD i 0)) (fun c => by
  show zKt k _ a a.length a.length = _
  unfold zKt
  simp only [zY, vMn (Nat.lt_irrefl _), vMt]) (fun c i hi => by
  show zKt k _ a a.length i = _
  unfold zKt qHt
  simp only [qH, qO hi hl, zY, vMu, vMm hi, vMs, yP5, vMr]) hk
 unfold zXw qHd
 rw [h1]
 simp only [Bool.not_not] at h2
 rw [← h2]
 cases x <;> rfl
theorem yWs {k : Nat} {a : List Int} (hk : a.length < k) (hl : a.length < 9223372036854775808) : zX2 k a = some (!qI (fun i => jY (a.getD i 0)) a.length 0) := by
 obtain ⟨x, h1, h2⟩ := zFb (L := fun c i => zSb k c a a.length i) (N := a.length) (fun i => !jY (a.getD i 0)) (fun c => by
  show zK4 k _ a a.length a.length = _
  unfold zK4
  simp only [zY, vMn (Nat.lt_irrefl _), vMt]) (fun c i hi => by
  show zK4 k _ a a.length i = _
  unfold zK4 qH0
  simp only [qH, qO hi hl, zY, vMu, vMm hi, vMs, vF3, vMr]) hk
 unfold zX2 qGn
 rw [h1]
 simp only [Bool.not_not] at h2
 rw [← h2]
 cases x <;> rfl
theorem qW4 {k n : Nat} (hk : n < k) (hn : n ≤ 1000) (a : List Int) : zSy k a n = some (decide (a.length = n) && qI (fun i => vW (a.getD i 0)) n 0) := by
 unfold zSy
 simp only [zGu]
 by_cases h : a.length = n
 ·rw [yVb (by omega) (by omega)]
  simp only [h, decide_true, vMs, vMr, Bool.not_not, Bool.true_and]
 ·simp only [vMn h, vMt, Bool.false_and]
theorem vCu {k n : Nat} (hk : n < k) (hn : n ≤ 1000) (a : List Int) : zUr k a n = some (decide (a.length = n) && qI (fun i => jY (a.getD i 0)) n 0) := by
 unfold zUr
 simp only [zGu]
 by_cases h : a.length = n
 ·rw [yWs (by omega) (by omega)]
  simp only [h, decide_true, vMs, vMr, Bool.not_not, Bool.true_and]
 ·simp only [vMn h, vMt, Bool.false_and]
theorem ySh {k n : Nat} (hk : n < k) (hn : n ≤ 1000) (m : List (List Int)) : zTs k m n = some (decide (m.length = n) && qI (fun i => decide ((m.getD i []).length = n) && qI (fun j => vW (cell m i j)) n 0) n 0) := by
 unfold zTs
 simp only [zGu]
 by_cases h : m.length = n
 ·have := zFr (L := fun c i => zRx k c n m n i) (N := n) (fun i => decide ((m.getD i []).length = n) && qI (fun j => vW (cell m i j)) n 0) (.inl ()) (.inr false) (fun c => by
    show zM4 k _ n m n n = _
    unfold zM4
    simp only [zY, vMn (Nat.lt_irrefl n), vMt]) (fun c i hi => by
    show zM4 k _ n m n i = _
    unfold zM4
    simp only [qH, qO hi (by omega), zY, vMu, h, vMm hi, vMs, qW4 hk hn, vMr]
    show (bif !(decide ((m.getD i []).length = n) && qI (fun j => vW (cell m i j)) n 0) then _ else _) = _
    generalize (decide ((m.getD i []).length = n) && qI (fun j => vW (cell m i j)) n 0) = r
    cases r <;> rfl) hk
  simp only [h, decide_true, vMw, vMt, Bool.true_and]
  rw [this]
  generalize qI _ _ _ = r
  cases r <;> rfl
 ·simp only [vMn h, vMx, vMs, Bool.false_and]
theorem yQ3 {k n : Nat} (hk : n < k) (hn : n ≤ 1000) (m : List (List Int)) : zUh k m n = some (decide (m.length = n) && qI (fun i => decide ((m.getD i []).length = n) && qI (fun j => jY (cell m i j)) n 0) n 0) := by
 unfold zUh
 simp only [zGu]
 by_cases h : m.length = n
 ·have := zFr (L := fun c i => zSd k c n m n i) (N := n) (fun i => decide ((m.getD i []).length = n) && qI (fun j => jY (cell m i j)) n 0) (.inl ()) (.inr false) (fun c => by
    show zMm k _ n m n n = _
    unfold zMm
    simp only [zY, vMn (Nat.lt_irrefl n), vMt]) (fun c i hi => by
    show zMm k _ n m n i = _
    unfold zMm
    simp only [qH, qO hi (by omega), zY, vMu, h, vMm hi, vMs, vCu hk hn, vMr]
    show (bif !(decide ((m.getD i []).length = n) && qI (fun j => jY (cell m i j)) n 0) then _ else _) = _
    generalize (decide ((m.getD i []).length = n) && qI (fun j => jY (cell m i j)) n 0) = r
    cases r <;> rfl) hk
  simp only [h, decide_true, vMw, vMt, Bool.true_and]
  rw [this]
  generalize qI _ _ _ = r
  cases r <;> rfl
 ·simp only [vMn h, vMx, vMs, Bool.false_and]
theorem yPk {k N i : Nat} (hk : N < k) (hN : N ≤ 1000) (hi : i < N) {p q : List (List Int)} {u : Int} (hp : p.length = N) (hpr : ∀ j, j < N → (p.getD j []).length = N) :
  zLh k k p i q u i (p.getD i []) N 0 = some (bif qI (fun j => decide (cell p j i = zA (0 - cell p i j))) N 0 then .inl (p, q, u, (i : Int)) else .inr false) := by
 refine zFr (L := fun c j => zLh k c p i q u i (p.getD i []) N j) (N := N) _ (.inl (p, q, u, (i : Int))) (.inr false) (fun c => ?_) (fun c j hj => ?_) hk
 ·show zMl k _ p i q u i (p.getD i []) N N = _
  unfold zMl
  simp only [zY, vMn (Nat.lt_irrefl N), vMt]
 ·show zMl k _ p i q u i (p.getD i []) N j = _
  unfold zMl
  simp only [qH, qO hj (show N < 9223372036854775808 by omega), zY, vMu, hp, hpr i hi, hpr j hj, vMm hj, vMm hi, vMs]
  show (bif !decide (cell p j i = zA (0 - cell p i j)) then _ else _) = _
  generalize decide (cell p j i = zA (0 - cell p i j)) = r
  cases r <;> rfl
theorem yU6 {k N : Nat} (hk : N < k) (hN : N ≤ 1000) {p : List (List Int)} (hp : p.length = N) (hpr : ∀ j, j < N → (p.getD j []).length = N) :
  zXa k p = some (zEt N p) := by
 have := zFr (L := fun c i => zRy k c p p N i) (N := N) (fun i => qI (fun j => decide (cell p j i = zA (0 - cell p i j))) N 0) (.inl ()) (.inr false) (fun c => by
   show zN7 k _ p p N N = _
   unfold zN7
   simp only [zY, vMn (Nat.lt_irrefl N), vMt]) (fun c i hi => by
   show zN7 k _ p p N i = _
   unfold zN7
   simp only [qH, zY, vMu, hp, hpr i hi, vMm hi, vMs, yPk hk hN hi hp hpr, vMr]
   generalize qI _ N 0 = r
   cases r <;> simp only [vMs, vMt, qO hi (show N < 9223372036854775808 by omega)]) hk
 unfold zXa
 simp only [hp]
 rw [this]
 have e : qI (fun i => qI (fun j => decide (cell p j i = zA (0 - cell p i j))) N 0) N 0 = zEt N p := by
  rw [Bool.eq_iff_iff]
  simp only [zEt, jU]
  exact ⟨fun h i hi j hj => h j hj i hi, fun h i hi j hj => h j hj i hi⟩
 rw [e]
 generalize zEt N p = r
 cases r <;> rfl
theorem yB6 {k : Nat} (hk : 10 < k) (a : List qM) (b : List (List Int)) (m : List Int) (p : List (List Int)) : zIc k a b m p = some (isB a b m p) := by
 unfold zIc
 have l1 : decide ((a.length : Int) < 1) = !decide (1 ≤ a.length) := by
  by_cases h : 1 ≤ a.length
  ·rw [vMm h, vMn (by omega)]; rfl
  ·rw [vMn h, vMm (by omega)]; rfl
 have l2 : decide ((a.length : Int) > 6) = !decide (a.length ≤ 6) := by
  by_cases h : a.length ≤ 6
  ·rw [vMm h, vMn (by omega)]; rfl
  ·rw [vMn h, vMm (by omega)]; rfl
 rw [l1, l2]
 unfold isB
 dsimp only
 by_cases h1 : 1 ≤ a.length
 case neg => rw [vMn h1]; rfl
 by_cases h2 : a.length ≤ 6
 case neg => rw [vMm h1, vMn h2]; rfl
 rw [vMm h1, vMm h2]
 simp only [vMw, vMt, Bool.true_and]
 rw [yWk (by omega) (by omega), ySh (by omega) (by omega), qW4 (by omega) (by omega), yQ3 (by omega) (by omega)]
 simp only [vMr]
 generalize hA : qI (fun i => jH (a.getD i (0, 0, 0))) a.length 0 = A
 have sq : ∀ (q : Int → Bool) (m : List (List Int)), (decide (m.length = a.length) && qI (fun i => decide ((m.getD i []).length = a.length) && qI (fun j => q (cell m i j)) a.length 0) a.length 0) = (sqL a.length m && zDb q a.length m) := by
  intro q m
  rw [Bool.eq_iff_iff]
  simp only [sqL, zDb, vMv, vMq, jU]
  exact ⟨fun h => ⟨⟨h.1, fun i hi => (h.2 i hi).1⟩, fun i hi => (h.2 i hi).2⟩, fun h => ⟨h.1.1, fun i hi => ⟨h.1.2 i hi, h.2 i hi⟩⟩⟩
 rw [sq vW b, sq jY p]
 cases hp : sqL a.length p with
 | false =>
  cases A <;> cases sqL a.length b <;> cases zDb vW a.length b <;> cases decide (m.length = a.length) <;> cases qI (fun i => vW (m.getD i 0)) a.length 0 <;> rfl
 | true =>
  simp only [sqL, vMv, vMq, jU] at hp
  rw [yU6 (N := a.length) (by omega) (by omega) hp.1 hp.2]
  cases A <;> cases sqL a.length b <;> cases zDb vW a.length b <;> cases decide (m.length = a.length) <;> cases qI (fun i => vW (m.getD i 0)) a.length 0 <;> cases zDb jY a.length p <;> cases zEt a.length p <;> rfl
theorem yGa {k N : Nat} {s : List (List Int)} (hN : s.length = N) (hl : N ≤ 1000) (hr : ∀ i, i < N → (s.getD i []).length ≤ 1000) : ∀ (c i n : Nat), i + c = N → c < n → zQa k n s i (s.take i) = some s
 | 0, i, n, h, hn => by
  obtain ⟨n, rfl⟩ : ∃ m, n = m + 1 := ⟨n - 1, by omega⟩
  show zL3 k _ s i (s.take i) = _
  unfold zL3
  have : ¬ i < s.length := by omega
  simp only [zY, vMn this, vMt]
  rw [List.take_of_length_le (by omega)]
 | c + 1, i, n, h, hn => by
  obtain ⟨n, rfl⟩ : ∃ m, n = m + 1 := ⟨n - 1, by omega⟩
  show zL3 k _ s i (s.take i) = _
  unfold zL3
  have hi : i < s.length := by omega
  have h1 := hr i (by omega)
  have e1 : qR (0 + (s.getD i []).length) 8 = true := vR (by omega) (by omega)
  have e2 : qR ((s.take i).length + 1) 24 = true := vR (by rw [List.length_take]; omega) (by rw [List.length_take]; omega)
  simp only [qH, qO hi (show s.length < 9223372036854775808 by omega), zY, vMu, vMm hi, vMs, e1, e2]
  rw [zAo s i [] hi]
  exact yGa hN hl hr c (i + 1) n (by omega) (by omega)
theorem yKj {k : Nat} {s : List (List Int)} (hl : s.length ≤ 1000) (hk : s.length < k) (hr : ∀ i, i < s.length → (s.getD i []).length ≤ 1000) : zRk k s = some s := by
 unfold zRk
 have := yGa (k := k) rfl hl hr s.length 0 k (by omega) hk
 rw [List.take_zero] at this
 have e : ((0 : Nat) : Int) = 0 := rfl
 rw [e] at this
 rw [this]
 rfl
theorem yHc {k N : Nat} {s : List (List Int)} (hN : s.length = N) (hl : N ≤ 1000) (hr : ∀ i, i < N → (s.getD i []).length ≤ 1000) : ∀ (c i n : Nat), i + c = N → c < n → zSp k n s N i (s.take i) N = some (s, N)
 | 0, i, n, h, hn => by
  obtain ⟨n, rfl⟩ : ∃ m, n = m + 1 := ⟨n - 1, by omega⟩
  show zMc k _ s N i (s.take i) N = _
  unfold zMc
  have : ¬ i < N := by omega
  simp only [zY, vMn this, vMt]
  rw [List.take_of_length_le (by omega)]
 | c + 1, i, n, h, hn => by
  obtain ⟨n, rfl⟩ : ∃ m, n = m + 1 := ⟨n - 1, by omega⟩
  show zMc k _ s N i (s.take i) N = _
  unfold zMc zDy
  have hi : i < N := by omega
  have h1 := hr i (by omega)
  have e1 : qR (0 + (s.getD i []).length) 8 = true := vR (by omega) (by omega)
  have e2 : Nat.beq i (s.take i).length = true := by rw [List.length_take, Nat.min_eq_left (by omega)]; simp
  simp only [qH, qO hi (show N < 9223372036854775808 by omega), zY, vMu, vMm hi, vMs, e1, e2, hN, vMr]
  rw [zAo s i [] (by omega)]
  exact yHc hN hl hr c (i + 1) n (by omega) (by omega)
theorem qV3 {k : Nat} {s : List (List Int)} (hl : s.length ≤ 1000) (hk : s.length < k) (hr : ∀ i, i < s.length → (s.getD i []).length ≤ 1000) : zSr k s = some s := by
 unfold zSr qO3
 have := yHc (k := k) rfl hl hr s.length 0 k (by omega) hk
 rw [List.take_zero] at this
 have e : ((0 : Nat) : Int) = 0 := rfl
 rw [e] at this
 have e1 : qR (0 + s.length) 24 = true := vR (by omega) (by omega)
 simp only [e1, vMs, vMr]
 rw [this]
 simp only [vMr, vHu]
 simp
structure Sized (a : List qM) (b : List (List Int)) (m : List Int) (p : List (List Int)) : Prop where
 n1 : 1 ≤ a.length
 n6 : a.length ≤ 6
 bl : b.length = a.length
 br : ∀ i, i < a.length → (b.getD i []).length = a.length
 ml : m.length = a.length
 pl : p.length = a.length
 pr : ∀ i, i < a.length → (p.getD i []).length = a.length
structure vY (a : List qM) (b : List (List Int)) (m : List Int) (p : List (List Int)) : Prop extends Sized a b m p where
 acct : ∀ i, i < a.length → jH (a.getD i (0, 0, 0)) = true
 mul : ∀ i, i < a.length → vW (m.getD i 0) = true
 bil : ∀ i, i < a.length → ∀ j, j < a.length → vW (cell b i j) = true
 net : ∀ i, i < a.length → ∀ j, j < a.length → jY (cell p i j) = true
 turn : ∀ i, i < a.length → ∀ j, j < a.length → cell p i j = zA (0 - cell p j i)
theorem zPe {a : List qM} {b : List (List Int)} {m : List Int} {p : List (List Int)} : isB a b m p = true ↔ vY a b m p := by
 unfold isB
 simp only [vMv, vMq, sqL, zDb, zEt, jU]
 constructor
 ·rintro ⟨h1, h2, ⟨h3, h4⟩, ⟨h5, h6⟩, h7, h8, h9, h10, h11, h12⟩
  exact { n1 := h1, n6 := h2, bl := h3, br := h4, ml := h7, pl := h5, pr := h6, acct := h8, mul := h9, bil := h10, net := h11, turn := h12 }
 ·intro h
  exact ⟨h.n1, h.n6, ⟨h.bl, h.br⟩, ⟨h.pl, h.pr⟩, h.ml, h.acct, h.mul, h.bil, h.net, h.turn⟩
theorem ySb {k : Nat} (hk : 10 < k) {a : List qM} {b : List (List Int)} {m : List Int} {p : List (List Int)} (h : Sized a b m p) : zZe k a b m p = some (a, b, m, p) := by
 obtain ⟨h1, h2, h3, h4, h5, h6, h7⟩ := h
 unfold zZe
 have e1 : qR (0 + a.length) 24 = true := vR (by omega) (by omega)
 have e2 : qR (0 + m.length) 8 = true := vR (by omega) (by omega)
 rw [yKj (s := b) (by omega) (by omega) (fun i hi => by rw [h4 i (by omega)]; omega), yKj (s := p) (by omega) (by omega) (fun i hi => by rw [h7 i (by omega)]; omega)]
 simp only [e1, e2, vMs, vMr]
theorem zQq {k : Nat} (hk : 10 < k) {a : List qM} {b : List (List Int)} {m : List Int} {p : List (List Int)} (h : Sized a b m p) : jL k a b m p = some (a, b, m, p) := by
 obtain ⟨h1, h2, h3, h4, h5, h6, h7⟩ := h
 unfold jL qLz zDy
 have e1 : qR (0 + a.length) 24 = true := vR (by omega) (by omega)
 have e2 : qR (0 + m.length) 8 = true := vR (by omega) (by omega)
 rw [qV3 (s := b) (by omega) (by omega) (fun i hi => by rw [h4 i (by omega)]; omega), qV3 (s := p) (by omega) (by omega) (fun i hi => by rw [h7 i (by omega)]; omega)]
 simp only [e1, e2, vMs, vMr]
abbrev pd : zB := (0, (0, (0, (0, (0, (0, 0))))))
abbrev ad : qM := (0, (0, 0))
def zB2 (n : Nat) (p : zB) : Bool := decide (p.2.1 ≥ 0) && (decide (p.2.1 < (n : Int)) && (decide (p.2.2.1 ≥ 0) && (decide (p.2.2.1 < (n : Int)) && (!decide (p.2.1 = p.2.2.1) && (decide (p.2.2.2.1 ≥ 1) && (decide (p.2.2.2.1 ≤ 1099511627776) && (decide (p.2.2.2.2.1 ≥ 1) && decide (p.2.2.2.2.1 ≤ 3))))))))
structure yM (n : Nat) (p : zB) : Prop where
 f0 : 0 ≤ p.2.1
 f1 : p.2.1 < n
 t0 : 0 ≤ p.2.2.1
 t1 : p.2.2.1 < n
 ne : p.2.1 ≠ p.2.2.1
 a1 : 1 ≤ p.2.2.2.1
 a2 : p.2.2.2.1 ≤ 1099511627776
 c1 : 1 ≤ p.2.2.2.2.1
 c3 : p.2.2.2.2.1 ≤ 3
theorem zUi {n : Nat} {p : zB} : zB2 n p = true ↔ yM n p := by
 unfold zB2
 simp only [vMv, vMq, Bool.not_eq_true', decide_eq_false_iff_not]
 exact ⟨fun ⟨h1, h2, h3, h4, h5, h6, h7, h8, h9⟩ => ⟨h1, h2, h3, h4, h5, h6, h7, h8, h9⟩, fun ⟨h1, h2, h3, h4, h5, h6, h7, h8, h9⟩ => ⟨h1, h2, h3, h4, h5, h6, h7, h8, h9⟩⟩
theorem qAz (k : Nat) (a : List qM) (b : List (List Int)) (m : List Int) (p : List (List Int)) (i f t am c s ti : Int) : zOl k a b m p i f t am c s ti = some (zB2 a.length (i, f, t, am, c, s, ti)) := by
 unfold zOl zB2
 cases decide (f ≥ 0) <;> cases decide (f < (a.length : Int)) <;> cases decide (t ≥ 0) <;> cases decide (t < (a.length : Int)) <;> cases decide (f = t) <;> cases decide (am ≥ 1) <;> cases decide (am ≤ 1099511627776) <;> cases decide (c ≥ 1) <;> rfl
theorem yOv (k : Nat) (a : List qM) (b : List (List Int)) (m : List Int) (p : List (List Int)) (i f t am c s ti : Int) : qAt k a b m p i f t am c s ti = some (zB2 a.length (i, f, t, am, c, s, ti)) := qAz k a b m p i f t am c s ti
def zB5 (n : Nat) (l : List zB) : Bool := qI (fun i => zB2 n (l.getD i pd)) l.length 0
theorem zL6 {n : Nat} {l : List zB} : zB5 n l = true ↔ ∀ p ∈ l, yM n p := by
 unfold zB5
 rw [jU]
 constructor
 ·intro h p hp
  obtain ⟨i, hi, rfl⟩ := List.getElem_of_mem hp
  have := h i hi
  rw [List.getD_eq_getElem?_getD, List.getElem?_eq_getElem hi] at this
  exact zUi.1 this
 ·intro h i hi
  exact zUi.2 (h _ (wH hi))
theorem vEs {k : Nat} {l : List zB} (hk : l.length < k) (hl : l.length < 9223372036854775808) (a : List qM) (b : List (List Int)) (m : List Int) (p : List (List Int)) : zZc k l a b m p = some (!zB5 a.length l) := by
 obtain ⟨x, h1, h2⟩ := zFb (L := fun c i => zQh k c l l.length i a b m p) (N := l.length) (fun i => !zB2 a.length (l.getD i pd)) (fun c => by
  show zKf k _ l l.length l.length a b m p = _
  unfold zKf
  simp only [zY, vMn (Nat.lt_irrefl _), vMt]) (fun c i hi => by
  show zKf k _ l l.length i a b m p = _
  unfold zKf qL8
  simp only [qH, qO hi hl, zY, vMu, vMm hi, vMs, qAz, vMr]) hk
 unfold zZc qEe
 rw [h1]
 simp only [Bool.not_not] at h2
 unfold zB5
 rw [← h2]
 cases x <;> rfl
theorem qXu {k : Nat} {l : List zB} (hk : l.length < k) (hl : l.length < 9223372036854775808) (a : List qM) (b : List (List Int)) (m : List Int) (p : List (List Int)) : zRa k a b m p l = some (zB5 a.length l && decide (l.length ≤ 64)) := by
 unfold zRa
 have := zFr (L := fun c i => zPc k c l i a b m p) (N := l.length) (fun i => zB2 a.length (l.getD i pd)) (.inl l) (.inr false) (fun c => by
  show zKe k _ l l.length a b m p = _
  unfold zKe
  simp only [zY, vMn (Nat.lt_irrefl _), vMt]) (fun c i hi => by
  show zKe k _ l i a b m p = _
  unfold zKe
  simp only [qH, qO hi hl, zY, vMu, vMm hi, vMs, yOv, vMr]
  show (bif !zB2 a.length (l.getD i pd) then _ else _) = _
  generalize zB2 a.length (l.getD i pd) = r
  cases r <;> rfl) hk
 rw [this]
 unfold zB5
 have e : decide (((l.length : Nat) : Int) ≤ 64) = decide (l.length ≤ 64) := by
  by_cases h : l.length ≤ 64
  ·rw [vMm h, vMm (by omega)]
  ·rw [vMn h, vMn (by omega)]
 generalize qI _ _ _ = r
 cases r
 ·rfl
 ·simp only [vMs, vMr, Bool.true_and, e]
def gB (i : Nat) (p : zB) : Int := (if p.2.2.1 = i then p.2.2.2.1 else 0) - (if p.2.1 = i then p.2.2.2.1 else 0)
def gS (i j : Nat) (p : zB) : Int := if p.2.1 = i ∧ p.2.2.1 = j then p.2.2.2.1 else 0
def gR (i : Nat) (p : zB) : Int := if p.2.1 = i ∧ p.2.2.2.2.1 ≠ 3 then p.2.2.2.1 else 0
def vS (r s : Int) : Int := if s ≥ r then 0 else r - s
theorem vG8 {r s t : Int} (hs : 0 ≤ s) (ht : 0 ≤ t) : vS (vS r s) t = vS r (s + t) := by
 unfold vS
 by_cases h : s ≥ r
 ·rw [if_pos h, if_pos (by omega), if_pos (by omega)]
 ·rw [if_neg h]
  by_cases h' : t ≥ r - s
  ·rw [if_pos h', if_pos (by omega)]
  ·rw [if_neg h', if_neg (by omega)]; omega
theorem qKj {r : Int} (hr : 0 ≤ r) : vS r 0 = r := by
 unfold vS
 by_cases h : (0 : Int) ≥ r
 ·rw [if_pos h]; omega
 ·rw [if_neg h]; omega
theorem yZ0 {r s : Int} : 0 ≤ vS r s := by
 unfold vS
 by_cases h : s ≥ r
 ·rw [if_pos h]; exact Int.le_refl 0
 ·rw [if_neg h]; omega
theorem vG9 {r s : Int} (hr : 0 ≤ r) (hs : 0 ≤ s) : vS r s ≤ r := by
 unfold vS
 by_cases h : s ≥ r
 ·rw [if_pos h]; exact hr
 ·rw [if_neg h]; omega
section
variable {n : Nat} {p : zB}
theorem yYs (h : yM n p) (i : Nat) : -1099511627776 ≤ gB i p ∧ gB i p ≤ 1099511627776 := by
 have h1 := h.a1; have h2 := h.a2; have h3 := h.ne
 unfold gB
 by_cases e : p.2.2.1 = i
 ·rw [if_pos e, if_neg (by omega)]; omega
 ·rw [if_neg e]
  by_cases e' : p.2.1 = i
  ·rw [if_pos e']; omega
  ·rw [if_neg e']; omega
theorem zVv (h : yM n p) (i j : Nat) : 0 ≤ gS i j p ∧ gS i j p ≤ 1099511627776 := by
 have h1 := h.a1; have h2 := h.a2
 unfold gS
 by_cases e : p.2.1 = i ∧ p.2.2.1 = j
 ·rw [if_pos e]; omega
 ·rw [if_neg e]; omega
theorem qA2 (h : yM n p) (i : Nat) : 0 ≤ gR i p ∧ gR i p ≤ 1099511627776 := by
 have h1 := h.a1; have h2 := h.a2
 unfold gR
 by_cases e : p.2.1 = i ∧ p.2.2.2.2.1 ≠ 3
 ·rw [if_pos e]; omega
 ·rw [if_neg e]; omega
end
def vI (n : Nat) (l : List zB) : Prop := (∀ p ∈ l, yM n p) ∧ l.length ≤ 64
theorem qAw {n : Nat} {l : List zB} (h : vI n l) (i : Nat) : -70368744177664 ≤ zP (gB i) l ∧ zP (gB i) l ≤ 70368744177664 := by
 have h1 := zJa (g := gB i) (A := 1099511627776) fun p hp => yYs (h.1 p hp) i
 have h2 := h.2
 have h3 : (l.length : Int) * 1099511627776 ≤ 70368744177664 := by omega
 omega
theorem zEx {n : Nat} {l : List zB} (h : vI n l) (i j : Nat) : 0 ≤ zP (gS i j) l ∧ zP (gS i j) l ≤ 70368744177664 := by
 have h1 := zJa (g := gS i j) (A := 1099511627776) fun p hp => by have := zVv (h.1 p hp) i j; omega
 have h0 := zFy (g := gS i j) fun p hp => (zVv (h.1 p hp) i j).1
 have h2 := h.2
 have h3 : (l.length : Int) * 1099511627776 ≤ 70368744177664 := by omega
 omega
theorem zIh {n : Nat} {l : List zB} (h : vI n l) (i : Nat) : 0 ≤ zP (gR i) l ∧ zP (gR i) l ≤ 70368744177664 := by
 have h1 := zJa (g := gR i) (A := 1099511627776) fun p hp => by have := qA2 (h.1 p hp) i; omega
 have h0 := zFy (g := gR i) fun p hp => (qA2 (h.1 p hp) i).1
 have h2 := h.2
 have h3 : (l.length : Int) * 1099511627776 ≤ 70368744177664 := by omega
 omega
theorem vI.take {n : Nat} {l : List zB} (h : vI n l) (i : Nat) : vI n (l.take i) := ⟨fun p hp => h.1 p (List.mem_of_mem_take hp), by rw [List.length_take]; have := h.2; omega⟩
structure zFw (n : Nat) (a : List qM) (p : List (List Int)) (l : List zB) (a' : List qM) (p' : List (List Int)) : Prop where
 al : a'.length = n
 acct : ∀ i, i < n → a'.getD i ad = ((a.getD i ad).1 + zP (gB i) l, (a.getD i ad).2.1, vS (a.getD i ad).2.2 (zP (gR i) l))
 pl : p'.length = n
 pr : ∀ i, i < n → (p'.getD i []).length = n
 cell : ∀ i, i < n → ∀ j, j < n → cell p' i j = cell p i j + zP (gS i j) l - zP (gS j i) l
theorem yPw {n : Nat} {p q : List (List Int)} (hp : p.length = n) (hq : q.length = n) (hpr : ∀ i, i < n → (p.getD i []).length = n) (hqr : ∀ i, i < n → (q.getD i []).length = n) (h : ∀ i, i < n → ∀ j, j < n → cell p i j = cell q i j) : p = q :=
 zU3 [] (by omega) fun i hi => zU3 0 (by rw [hpr i (by omega), hqr i (by omega)]) fun j hj => h i (by omega) j (by rw [hpr i (by omega)] at hj; exact hj)
theorem zFw.same {n : Nat} {a a1 a2 : List qM} {p p1 p2 : List (List Int)} {l : List zB} (x : zFw n a p l a1 p1) (y : zFw n a p l a2 p2) : a1 = a2 ∧ p1 = p2 :=
 ⟨zU3 ad (by rw [x.al, y.al]) fun i hi => by have := x.al; rw [x.acct i (by omega), y.acct i (by omega)],
  yPw x.pl y.pl x.pr y.pr fun i hi j hj => by rw [x.cell i hi j hj, y.cell i hi j hj]⟩
structure zWl (n : Nat) (a : List qM) (p : List (List Int)) : Prop where
 al : a.length = n
 pl : p.length = n
 pr : ∀ i, i < n → (p.getD i []).length = n
 bal : ∀ i, i < n → -4611686018427387904 < (a.getD i ad).1 ∧ (a.getD i ad).1 < 4611686018427387904
 res : ∀ i, i < n → 0 ≤ (a.getD i ad).2.2 ∧ (a.getD i ad).2.2 ≤ 2305843009213693952
 net : ∀ i, i < n → ∀ j, j < n → -72057594037927936 < cell p i j ∧ cell p i j < 72057594037927936
theorem vY.nums {a : List qM} {b : List (List Int)} {m : List Int} {p : List (List Int)} (h : vY a b m p) : zWl a.length a p where
 al := rfl
 pl := h.pl
 pr := h.pr
 bal := fun i hi => by
  have := h.acct i hi
  show -4611686018427387904 < (a.getD i (0, 0, 0)).1 ∧ (a.getD i (0, 0, 0)).1 < 4611686018427387904
  simp only [jH, vMv, vMq] at this
  omega
 res := fun i hi => by
  have := h.acct i hi
  show 0 ≤ (a.getD i (0, 0, 0)).2.2 ∧ (a.getD i (0, 0, 0)).2.2 ≤ 2305843009213693952
  simp only [jH, vMv, vMq] at this
  omega
 net := fun i hi j hj => by
  have := h.net i hi j hj
  simp only [jY, vMv, vMq] at this
  omega
theorem qFv {m : List (List Int)} {f t i j : Nat} {x : Int} (hf : f < m.length) (ht : t < (m.getD f []).length) : cell (m.set f ((m.getD f []).set t x)) i j = if i = f ∧ j = t then x else cell m i j := by
 unfold cell
 rw [wI]
 by_cases h : f = i
 ·rw [if_pos ⟨h, hf⟩, wI]
  by_cases h' : t = j
  ·rw [if_pos ⟨h', ht⟩, if_pos ⟨h.symm, h'.symm⟩]
  ·rw [if_neg (fun e => h' e.1), if_neg (fun e => h' e.2.symm), h]
 ·rw [if_neg (fun e => h e.1), if_neg (fun e => h e.1.symm)]
theorem zP8 {n : Nat} {m : List (List Int)} {f t : Nat} {x : Int} (hm : m.length = n) (hr : ∀ i, i < n → (m.getD i []).length = n) (hf : f < n) : ∀ i, i < n → ((m.set f ((m.getD f []).set t x)).getD i []).length = n := by
 intro i hi
 rw [wI]
 by_cases h : f = i
 ·rw [if_pos ⟨h, by omega⟩, List.length_set]; exact hr f hf
 ·rw [if_neg (fun e => h e.1)]; exact hr i hi
def zJl (p : zB) (r : List qM) : List qM :=
 let y0 := r.set p.2.1.toNat (zA ((r.getD p.2.1.toNat ad).1 - p.2.2.2.1), (r.getD p.2.1.toNat ad).2)
 let y1 := y0.set p.2.2.1.toNat (zA ((y0.getD p.2.2.1.toNat ad).1 + p.2.2.2.1), (y0.getD p.2.2.1.toNat ad).2)
 bif !decide (p.2.2.2.2.1 = 3) then y1.set p.2.1.toNat ((y1.getD p.2.1.toNat ad).1, ((y1.getD p.2.1.toNat ad).2.1, zQw false (zA ((y1.getD p.2.1.toNat ad).2.2 - p.2.2.2.1)) 0)) else y1
def zGe (p : zB) (m : List (List Int)) : List (List Int) :=
 let y3 := m.set p.2.1.toNat ((m.getD p.2.1.toNat []).set p.2.2.1.toNat (zA ((m.getD p.2.1.toNat []).getD p.2.2.1.toNat 0 + p.2.2.2.1)))
 y3.set p.2.2.1.toNat ((y3.getD p.2.2.1.toNat []).set p.2.1.toNat (zA ((y3.getD p.2.2.1.toNat []).getD p.2.1.toNat 0 - p.2.2.2.1)))
theorem vG6 (p : zB) (r : List qM) : (zJl p r).length = r.length := by
 unfold zJl
 cases decide (p.2.2.2.2.1 = 3) <;> simp
theorem vFz {n : Nat} {p : zB} (h : yM n p) {r : List qM} (hr : r.length = n) {i : Nat} (hi : i < n) (hb : ∀ i, i < n → -4611826755915743232 < (r.getD i ad).1 ∧ (r.getD i ad).1 < 4611826755915743232)
  (hz : ∀ i, i < n → 0 ≤ (r.getD i ad).2.2 ∧ (r.getD i ad).2.2 ≤ 2305843009213693952) : (zJl p r).getD i ad = ((r.getD i ad).1 + gB i p, (r.getD i ad).2.1, vS (r.getD i ad).2.2 (gR i p)) := by
 obtain ⟨f0, f1, t0, t1, ne, a1, a2, c1, c3⟩ := h
 obtain ⟨f, hf⟩ : ∃ f : Nat, p.2.1 = f := ⟨p.2.1.toNat, by omega⟩
 obtain ⟨t, ht⟩ : ∃ t : Nat, p.2.2.1 = t := ⟨p.2.2.1.toNat, by omega⟩
 have hft : f ≠ t := by omega
 have hfn : f < n := by omega
 have htn : t < n := by omega
 have bf := hb f hfn
 have bt := hb t htn
 have zf := hz f hfn
 have e1 : (r.set f (zA ((r.getD f ad).1 - p.2.2.2.1), (r.getD f ad).2)).getD t ad = r.getD t ad := by rw [wI, if_neg (fun e => hft e.1)]
 have key : ∀ j, j < n → ((r.set f (zA ((r.getD f ad).1 - p.2.2.2.1), (r.getD f ad).2)).set t (zA ((r.getD t ad).1 + p.2.2.2.1), (r.getD t ad).2)).getD j ad = ((r.getD j ad).1 + gB j p, (r.getD j ad).2) := by
  intro j hj
  unfold gB
  rw [hf, ht, wI]
  by_cases hjt : t = j
  ·subst hjt
   rw [if_pos ⟨rfl, by rw [List.length_set]; omega⟩, if_pos rfl, if_neg (by omega), zU (by omega) (by omega)]
   simp
  ·rw [if_neg (fun e => hjt e.1), if_neg (by omega), wI]
   by_cases hjf : f = j
   ·subst hjf
    rw [if_pos ⟨rfl, by omega⟩, if_pos rfl, zU (by omega) (by omega)]
    simp only [Int.zero_sub]; rfl
   ·rw [if_neg (fun e => hjf e.1), if_neg (by omega)]
    simp
 unfold zJl
 simp only [hf, ht, vMu, e1]
 unfold gR
 cases hc : decide (p.2.2.2.2.1 = 3) with
 | true =>
  have hc' : p.2.2.2.2.1 = 3 := by simpa using hc
  simp only [vMw, vMt]
  rw [key i hi, if_neg (fun e => e.2 hc'), qKj (hz i hi).1]
 | false =>
  have hc' : p.2.2.2.2.1 ≠ 3 := by simpa using hc
  simp only [vMx, vMs]
  rw [wI]
  by_cases hif : f = i
  ·subst hif
   rw [if_pos ⟨rfl, by simp only [List.length_set]; omega⟩, key f hfn, if_pos ⟨hf, hc'⟩]
   have : zQw false (zA ((r.getD f ad).2.2 - p.2.2.2.1)) 0 = vS (r.getD f ad).2.2 p.2.2.2.1 := by
    rw [zU (by omega) (by omega)]
    unfold zQw vS
    simp only [vMt]
    by_cases h : p.2.2.2.1 ≥ (r.getD f ad).2.2
    ·rw [if_pos h]
     by_cases h' : (0 : Int) > (r.getD f ad).2.2 - p.2.2.2.1
     ·rw [vMm h']; rfl
     ·rw [vMn h']
      show (r.getD f ad).2.2 - p.2.2.2.1 = 0
      omega
    ·rw [if_neg h, vMn (by omega)]; rfl
   rw [this]
  ·rw [if_neg (fun e => hif e.1), key i hi, if_neg (by omega), qKj (hz i hi).1]
theorem qT2 {n : Nat} {p : zB} (h : yM n p) {m : List (List Int)} (hm : m.length = n) (hr : ∀ i, i < n → (m.getD i []).length = n) (hb : ∀ i, i < n → ∀ j, j < n → -72128000000000000 < cell m i j ∧ cell m i j < 72128000000000000) :
  (zGe p m).length = n ∧ (∀ i, i < n → ((zGe p m).getD i []).length = n) ∧ ∀ i, i < n → ∀ j, j < n → cell (zGe p m) i j = cell m i j + gS i j p - gS j i p := by
 obtain ⟨f0, f1, t0, t1, ne, a1, a2, c1, c3⟩ := h
 obtain ⟨f, hf⟩ : ∃ f : Nat, p.2.1 = f := ⟨p.2.1.toNat, by omega⟩
 obtain ⟨t, ht⟩ : ∃ t : Nat, p.2.2.1 = t := ⟨p.2.2.1.toNat, by omega⟩
 have hft : f ≠ t := by omega
 have hfn : f < n := by omega
 have htn : t < n := by omega
 unfold zGe
 simp only [hf, ht, vMu]
 have r1 := zP8 (x := zA ((m.getD f []).getD t 0 + p.2.2.2.1)) (t := t) hm hr hfn
 have c1 : ∀ i j, cell (m.set f ((m.getD f []).set t (zA ((m.getD f []).getD t 0 + p.2.2.2.1)))) i j = if i = f ∧ j = t then zA (cell m f t + p.2.2.2.1) else cell m i j := fun i j => qFv (by omega) (by rw [hr f hfn]; omega)
 refine ⟨by simp only [List.length_set]; exact hm, zP8 (by rw [List.length_set]; exact hm) r1 htn, fun i hi j hj => ?_⟩
 rw [qFv (by rw [List.length_set]; omega) (by rw [r1 t htn]; omega)]
 have e2 : ((m.set f ((m.getD f []).set t (zA ((m.getD f []).getD t 0 + p.2.2.2.1)))).getD t []).getD f 0 = cell m t f := by
  show cell _ t f = _
  rw [c1, if_neg (fun e => hft e.1.symm)]
 rw [e2, c1]
 unfold gS
 rw [hf, ht]
 have b1 := hb f hfn t htn
 have b2 := hb t htn f hfn
 by_cases h1 : i = t ∧ j = f
 ·obtain ⟨rfl, rfl⟩ := h1
  rw [if_pos ⟨rfl, rfl⟩, if_neg (by omega), if_pos ⟨rfl, rfl⟩, zU (by omega) (by omega)]
  omega
 ·rw [if_neg h1]
  by_cases h2 : i = f ∧ j = t
  ·obtain ⟨rfl, rfl⟩ := h2
   rw [if_pos ⟨rfl, rfl⟩, if_pos ⟨rfl, rfl⟩, if_neg (by omega), zU (by omega) (by omega)]
   omega
  ·rw [if_neg h2, if_neg (by omega), if_neg (by omega)]
   omega
theorem yY8 {k n : Nat} {a : List qM} {b : List (List Int)} {m : List Int} {p : List (List Int)} {l : List zB} (hk : l.length < k) (hx : zWl n a p) (hl : vI n l) (b0 : List qM) (b1 : List (List Int)) (b2 : List Int) (b3 : List (List Int)) :
  ∃ a' p', zLy k k l l.length 0 b0 b1 b2 b3 a b m p = some (b0, b1, b2, b3, a', b, m, p') ∧ zFw n a p l a' p' := by
 have := vO (L := fun c i (s : List qM × List (List Int)) => zLy k c l l.length i b0 b1 b2 b3 s.1 b m s.2) (N := l.length) (fun s => (b0, b1, b2, b3, s.1, b, m, s.2)) (fun i s => zFw n a p (l.take i) s.1 s.2) (fun c s hs => by
   show zOb k _ l l.length l.length b0 b1 b2 b3 s.1 b m s.2 = _
   unfold zOb
   simp only [zY, vMn (Nat.lt_irrefl _), vMt]) (fun c i s hi hs => by
   refine ⟨(zJl (l.getD i pd) s.1, zGe (l.getD i pd) s.2), ?_, ?_⟩
   ·show zOb k _ l l.length i b0 b1 b2 b3 s.1 b m s.2 = _
    have hmay : yM n (l.getD i pd) := hl.1 _ (wH hi)
    unfold zOb zJl zGe
    have hl64 := hl.2
    simp only [qH, qO hi (show l.length < 9223372036854775808 by omega), zY, vMu, vMm hi, vMs]
    obtain ⟨f0, f1, t0, t1, ne, a1, a2, c1, c3⟩ := hmay
    obtain ⟨f, hf⟩ : ∃ f : Nat, (l.getD i pd).2.1 = f := ⟨(l.getD i pd).2.1.toNat, by omega⟩
    obtain ⟨t, ht⟩ : ∃ t : Nat, (l.getD i pd).2.2.1 = t := ⟨(l.getD i pd).2.2.1.toNat, by omega⟩
    have hfn : f < n := by omega
    have htn : t < n := by omega
    have r1 := zP8 (x := zA ((s.2.getD f []).getD t 0 + (l.getD i pd).2.2.2.1)) (t := t) hs.pl hs.pr hfn
    simp only [hf, ht, vMu, qH, hs.al, hs.pl, List.length_set, hs.pr f hfn, r1 t htn, vMm hfn, vMm htn, vMs, zFs, vMr]
    cases decide ((l.getD i pd).2.2.2.2.1 = 3) <;> rfl
   ·have hmay : yM n (l.getD i pd) := hl.1 _ (wH hi)
    have hrow := hl.take i
    have hp := qT2 hmay hs.pl hs.pr (fun i' hi' j' hj' => by
     rw [hs.cell i' hi' j' hj']
     have h1 := hx.net i' hi' j' hj'
     have h2 := zEx hrow i' j'
     have h3 := zEx hrow j' i'
     omega)
    refine ⟨by rw [vG6]; exact hs.al, fun i' hi' => ?_, hp.1, hp.2.1, fun i' hi' j' hj' => ?_⟩
    ·rw [vFz hmay hs.al hi' (fun j hj => by
       rw [hs.acct j hj]
       have h1 := hx.bal j hj
       have h2 := qAw hrow j
       dsimp only
       omega) (fun j hj => by
       rw [hs.acct j hj]
       have h1 := hx.res j hj
       have h2 := zIh hrow j
       dsimp only
       exact ⟨yZ0, Int.le_trans (vG9 h1.1 h2.1) h1.2⟩), hs.acct i' hi', ← zAo l i pd hi, zAm, zAm]
     dsimp only [zP]
     rw [vG8 (zIh hrow i').1 (qA2 hmay i').1, Int.add_zero, Int.add_zero, Int.add_assoc]
    ·rw [hp.2.2 i' hi' j' hj', hs.cell i' hi' j' hj', ← zAo l i pd hi, zAm, zAm]
     dsimp only [zP]
     omega) (s := (a, p)) hk ⟨hx.al, fun i hi => by
      rw [List.take_zero]
      show a.getD i ad = ((a.getD i ad).1 + 0, (a.getD i ad).2.1, vS (a.getD i ad).2.2 0)
      rw [qKj (hx.res i hi).1, Int.add_zero], hx.pl, hx.pr, fun i hi j hj => by
      rw [List.take_zero]
      show cell p i j = cell p i j + 0 - 0
      omega⟩
 obtain ⟨s, h1, h2⟩ := this
 rw [List.take_of_length_le (Nat.le_refl _)] at h2
 exact ⟨s.1, s.2, h1, h2⟩
theorem qFe {k n : Nat} {l : List zB} (hk : l.length < k) (hl : vI n l) (i j : Nat) : zGz k l i j = some (zP (gS i j) l) := by
 have hl64 := hl.2
 obtain ⟨s, h1, h2⟩ := vO (L := fun c x (s : Int) => zRq k c l i j s x) (N := l.length) (fun s => s) (fun x s => s = zP (gS i j) (l.take x)) (fun c s hs => by
   show zLe k _ l i j s l.length = _
   unfold zLe
   simp only [zY, vMn (Nat.lt_irrefl _), vMt]) (fun c x s hx hs => by
   refine ⟨zP (gS i j) (l.take (x + 1)), ?_, rfl⟩
   show zLe k _ l i j s x = _
   have hb := zEx (hl.take x) i j
   have hm : yM n (l.getD x pd) := hl.1 _ (wH hx)
   have hg := zVv hm i j
   have e : zP (gS i j) (l.take (x + 1)) = s + gS i j (l.getD x pd) := by
    rw [← zAo l x pd hx, zAm, hs]
    show _ + (_ + 0) = _
    omega
   have w := zU (x := s + (l.getD x pd).2.2.2.1) (by have := hm.a1; rw [hs]; omega) (by have := hm.a2; rw [hs]; omega)
   unfold zLe
   simp only [qH, qO hx (show l.length < 9223372036854775808 by omega), zY, vMu, vMm hx, vMs]
   rw [e]
   unfold gS
   by_cases c1 : (l.getD x pd).2.1 = (i : Int)
   ·rw [vMm c1]
    by_cases c2 : (l.getD x pd).2.2.1 = (j : Int)
    ·rw [vMm c2, if_pos ⟨c1, c2⟩, w]; rfl
    ·rw [vMn c2, if_neg (fun e => c2 e.2), Int.add_zero]; rfl
   ·rw [vMn c1, if_neg (fun e => c1 e.1), Int.add_zero]; rfl) (s := 0) hk rfl
 unfold zGz
 rw [h1]
 rw [List.take_of_length_le (Nat.le_refl _)] at h2
 rw [h2]
 rfl
theorem yVk {k n : Nat} {l : List zB} (hk : l.length < k) (hl : vI n l) (i j : Nat) : zW7 k l i j = some (zP (gS i j) l - zP (gS j i) l) := by
 unfold zW7
 rw [qFe hk hl i j, qFe hk hl j i]
 have h1 := zEx hl i j
 have h2 := zEx hl j i
 simp only [vMr]
 rw [zU (by omega) (by omega)]
def gN (i : Nat) (p : zB) : Int := if p.2.1 = i ∧ p.2.2.2.2.1 = 3 then p.2.2.2.1 else 0
theorem zYe {n : Nat} {p : zB} (h : yM n p) (i : Nat) : 0 ≤ gN i p ∧ gN i p ≤ 1099511627776 := by
 have h1 := h.a1; have h2 := h.a2
 unfold gN
 by_cases e : p.2.1 = i ∧ p.2.2.2.2.1 = 3
 ·rw [if_pos e]; omega
 ·rw [if_neg e]; omega
theorem yAw {n : Nat} {l : List zB} (h : vI n l) (i : Nat) : 0 ≤ zP (gN i) l ∧ zP (gN i) l ≤ 70368744177664 := by
 have h1 := zJa (g := gN i) (A := 1099511627776) fun p hp => by have := zYe (h.1 p hp) i; omega
 have h0 := zFy (g := gN i) fun p hp => (zYe (h.1 p hp) i).1
 have h2 := h.2
 have h3 : (l.length : Int) * 1099511627776 ≤ 70368744177664 := by omega
 omega
theorem qW1 {k n : Nat} {l : List zB} (hk : l.length < k) (hl : vI n l) (i : Nat) : zS0 k l i = some (zP (gN i) l, zP (gR i) l) := by
 have hl64 := hl.2
 obtain ⟨s, h1, h2⟩ := vO (L := fun c x (s : Int × Int) => zOv k c l i s.1 s.2 x) (N := l.length) (fun s => s) (fun x s => s = (zP (gN i) (l.take x), zP (gR i) (l.take x))) (fun c s hs => by
   show zJz k _ l i s.1 s.2 l.length = _
   unfold zJz
   simp only [zY, vMn (Nat.lt_irrefl _), vMt]) (fun c x s hx hs => by
   refine ⟨(zP (gN i) (l.take (x + 1)), zP (gR i) (l.take (x + 1))), ?_, rfl⟩
   show zJz k _ l i s.1 s.2 x = _
   have hb := yAw (hl.take x) i
   have hb' := zIh (hl.take x) i
   have hm : yM n (l.getD x pd) := hl.1 _ (wH hx)
   have e : zP (gN i) (l.take (x + 1)) = s.1 + gN i (l.getD x pd) := by
    rw [← zAo l x pd hx, zAm, hs]
    show _ + (_ + 0) = _
    omega
   have e' : zP (gR i) (l.take (x + 1)) = s.2 + gR i (l.getD x pd) := by
    rw [← zAo l x pd hx, zAm, hs]
    show _ + (_ + 0) = _
    omega
   have w := zU (x := s.1 + (l.getD x pd).2.2.2.1) (by have := hm.a1; rw [hs]; dsimp only; omega) (by have := hm.a2; rw [hs]; dsimp only; omega)
   have w' := zU (x := s.2 + (l.getD x pd).2.2.2.1) (by have := hm.a1; rw [hs]; dsimp only; omega) (by have := hm.a2; rw [hs]; dsimp only; omega)
   unfold zJz
   simp only [qH, qO hx (show l.length < 9223372036854775808 by omega), zY, vMu, vMm hx, vMs]
   rw [e, e']
   unfold gN gR
   by_cases c1 : (l.getD x pd).2.1 = (i : Int)
   ·rw [vMm c1]
    by_cases c2 : (l.getD x pd).2.2.2.2.1 = 3
    ·rw [vMm c2, if_pos ⟨c1, c2⟩, if_neg (fun e => e.2 c2), w, Int.add_zero]; rfl
    ·rw [vMn c2, if_neg (fun e => c2 e.2), if_pos ⟨c1, c2⟩, w', Int.add_zero]; rfl
   ·rw [vMn c1, if_neg (fun e => c1 e.1), if_neg (fun e => c1 e.1), Int.add_zero, Int.add_zero]; rfl) (s := (0, 0)) hk rfl
 unfold zS0
 rw [h1]
 rw [List.take_of_length_le (Nat.le_refl _)] at h2
 rw [h2]
 rfl
theorem yTv {k n : Nat} {l : List zB} (hk : l.length < k) (hl : vI n l) (i : Nat) : qAc k l i = some (zP (gR i) l) := by
 unfold qAc
 rw [qW1 hk hl i]
 rfl
theorem qW0 (k : Nat) (b c r s : Int) (h : -9223372036854775808 ≤ r - s) (h' : r < 9223372036854775808) (hs : 0 ≤ s) : zJ6 k b c r s = some (vS r s) := by
 unfold zJ6 vS
 by_cases e : s ≥ r
 ·rw [vMm e, if_pos e]; rfl
 ·rw [vMn e, if_neg e, zU h (by omega)]; rfl
theorem yK1 {n : Nat} {l : List zB} (hl : ∀ p ∈ l, yM n p) (i : Nat) (hi : i < n) : zW (fun j => zP (gS i j) l - zP (gS j i) l) n = - zP (gB i) l := by
 have e1 : zW (fun j => zP (gS i j) l - zP (gS j i) l) n = zW (fun j => zP (fun p => gS i j p - gS j i p) l) n := zBb fun j _ => (qJ0 _ _ l).symm
 rw [e1, zVl (fun j p => gS i j p - gS j i p)]
 have e2 : ∀ p ∈ l, zW (fun j => gS i j p - gS j i p) n = 0 - gB i p := by
  intro p hp
  obtain ⟨f0, f1, t0, t1, ne, a1, a2, c1, c3⟩ := hl p hp
  obtain ⟨f, hf⟩ : ∃ f : Nat, p.2.1 = f := ⟨p.2.1.toNat, by omega⟩
  obtain ⟨t, ht⟩ : ∃ t : Nat, p.2.2.1 = t := ⟨p.2.2.1.toNat, by omega⟩
  have g1 : ∀ j, gS i j p - gS j i p = (if j = t then (if f = i then p.2.2.2.1 else 0) else 0) + (if j = f then (if t = i then -p.2.2.2.1 else 0) else 0) := by
   intro j
   unfold gS
   rw [hf, ht]
   by_cases a : f = i <;> by_cases b : t = i <;> by_cases c : j = t <;> by_cases d : j = f <;> (repeat (first | rw [if_pos (by omega)] | rw [if_neg (by omega)])) <;> omega
  rw [zBb fun j _ => g1 j, zHw, zHv, zHv]
  unfold gB
  rw [hf, ht]
  by_cases a : f = i <;> by_cases b : t = i <;> (repeat (first | rw [if_pos (by omega)] | rw [if_neg (by omega)])) <;> omega
 rw [zUl e2, qJ0]
 have : zP (fun _ : zB => (0 : Int)) l = 0 := by
  clear e1 e2 hl
  induction l with
  | nil => rfl
  | cons p l ih => show 0 + zP _ l = 0; rw [ih]; rfl
 rw [this]; omega
structure yX7 (n : Nat) (a : List qM) (p : List (List Int)) (l : List zB) (i : Nat) (a' : List qM) (p' : List (List Int)) : Prop where
 al : a'.length = n
 done : ∀ x, x < n → x < i → a'.getD x ad = ((a.getD x ad).1 + zP (gB x) l, (a.getD x ad).2.1, vS (a.getD x ad).2.2 (zP (gR x) l))
 rest : ∀ x, x < n → ¬ x < i → a'.getD x ad = a.getD x ad
 pl : p'.length = n
 pr : ∀ x, x < n → (p'.getD x []).length = n
 cell : ∀ x, x < n → ∀ y, y < n → cell p' x y = if x < i then cell p x y + zP (gS x y) l - zP (gS y x) l else cell p x y
structure qMw (n : Nat) (a : List qM) (p : List (List Int)) (l : List zB) (i j : Nat) (a' : List qM) (p' : List (List Int)) : Prop where
 al : a'.length = n
 done : ∀ x, x < n → x < i → a'.getD x ad = ((a.getD x ad).1 + zP (gB x) l, (a.getD x ad).2.1, vS (a.getD x ad).2.2 (zP (gR x) l))
 here : a'.getD i ad = ((a.getD i ad).1 - zW (fun j => zP (gS i j) l - zP (gS j i) l) j, (a.getD i ad).2.1, vS (a.getD i ad).2.2 (zP (gR i) l))
 rest : ∀ x, x < n → i < x → a'.getD x ad = a.getD x ad
 pl : p'.length = n
 pr : ∀ x, x < n → (p'.getD x []).length = n
 cell : ∀ x, x < n → ∀ y, y < n → cell p' x y = if x < i ∨ (x = i ∧ y < j) then cell p x y + zP (gS x y) l - zP (gS y x) l else cell p x y
theorem yUr {k n : Nat} {a : List qM} {p : List (List Int)} {l : List zB} (hk : n < k) (hkl : l.length < k) (hn : n ≤ 1000) (hx : zWl n a p) (hl : vI n l) {i : Nat} (hi : i < n) (b0 : List qM) (b1 : List (List Int)) (b2 : List Int) (b3 : List (List Int)) (b : List (List Int)) (m : List Int)
  {a0 : List qM} {p0 : List (List Int)} (h0 : qMw n a p l i 0 a0 p0) : ∃ a' p', zMy k k l i 0 b0 b1 b2 b3 a0 b m p0 = some (l, (i : Int), b0, b1, b2, b3, a', b, m, p') ∧ qMw n a p l i n a' p' := by
 obtain ⟨s, h1, h2⟩ := vO (L := fun c j (s : List qM × List (List Int)) => zMy k c l i j b0 b1 b2 b3 s.1 b m s.2) (N := n) (fun s => (l, (i : Int), b0, b1, b2, b3, s.1, b, m, s.2)) (fun j s => qMw n a p l i j s.1 s.2) (fun c s hs => by
   show zNj k _ l i n b0 b1 b2 b3 s.1 b m s.2 = _
   unfold zNj
   simp only [zY, hs.al, vMn (Nat.lt_irrefl _), vMt]) (fun c j s hj hs => by
   refine ⟨(s.1.set i (zA ((s.1.getD i ad).1 - (zP (gS i j) l - zP (gS j i) l)), (s.1.getD i ad).2), s.2.set i ((s.2.getD i []).set j (zA ((s.2.getD i []).getD j 0 + (zP (gS i j) l - zP (gS j i) l))))), ?_, ?_⟩
   ·show zNj k _ l i j b0 b1 b2 b3 s.1 b m s.2 = _
    unfold zNj
    simp only [qH, qO hj (show n < 9223372036854775808 by omega), zY, vMu, hs.al, hs.pl, hs.pr i hi, vMm hi, vMm hj, vMs, yVk hkl hl, vMr]
   ·have hb := hx.bal i hi
    have hg : ∀ j, -70368744177664 ≤ zP (gS i j) l - zP (gS j i) l ∧ zP (gS i j) l - zP (gS j i) l ≤ 70368744177664 := fun j => by
     have h1 := zEx hl i j
     have h2 := zEx hl j i
     omega
    have hs1 := zGt hg j
    have hs2 := hg j
    have hj1 : (j : Int) * 70368744177664 ≤ 1000 * 70368744177664 := by omega
    have hnet := hx.net i hi j hj
    have hc := hs.cell i hi j hj
    rw [if_neg (by omega)] at hc
    refine ⟨by simp only [List.length_set]; exact hs.al, fun x hxn hxi => ?_, ?_, fun x hxn hxi => ?_, by simp only [List.length_set]; exact hs.pl, zP8 hs.pl hs.pr hi, fun x hxn y hyn => ?_⟩
    ·rw [wI, if_neg (fun e => by omega)]
     exact hs.done x hxn hxi
    ·rw [wI, if_pos ⟨rfl, by rw [hs.al]; exact hi⟩, hs.here]
     dsimp only
     rw [zU (by omega) (by omega)]
     show (_, _) = ((a.getD i ad).1 - (zW _ j + _), _)
     rw [Int.sub_sub]
    ·rw [wI, if_neg (fun e => by omega)]
     exact hs.rest x hxn hxi
    ·have e : (s.2.getD i []).getD j 0 = cell p i j := hc
     rw [qFv (by rw [hs.pl]; exact hi) (by rw [hs.pr i hi]; exact hj), e]
     by_cases hxy : x = i ∧ y = j
     ·obtain ⟨rfl, rfl⟩ := hxy
      rw [if_pos ⟨rfl, rfl⟩, if_pos (by omega), zU (by omega) (by omega)]
      omega
     ·rw [if_neg hxy, hs.cell x hxn y hyn]
      by_cases h : x < i ∨ (x = i ∧ y < j)
      ·rw [if_pos h, if_pos (by omega)]
      ·rw [if_neg h, if_neg (by omega)]) (s := (a0, p0)) hk h0
 exact ⟨s.1, s.2, h1, h2⟩
theorem yRa {k n : Nat} {a : List qM} {b : List (List Int)} {m : List Int} {p : List (List Int)} {l : List zB} (hk : n < k) (hkl : l.length < k) (hn : n ≤ 1000) (hx : zWl n a p) (hl : vI n l) (b0 : List qM) (b1 : List (List Int)) (b2 : List Int) (b3 : List (List Int)) :
  ∃ a' p', zMz k k l 0 b0 b1 b2 b3 a b m p = some (b0, b1, b2, b3, a', b, m, p') ∧ zFw n a p l a' p' := by
 obtain ⟨s, h1, h2⟩ := vO (L := fun c i (s : List qM × List (List Int)) => zMz k c l i b0 b1 b2 b3 s.1 b m s.2) (N := n) (fun s => (b0, b1, b2, b3, s.1, b, m, s.2)) (fun i s => yX7 n a p l i s.1 s.2) (fun c s hs => by
   show zNt k _ l n b0 b1 b2 b3 s.1 b m s.2 = _
   unfold zNt
   simp only [zY, hs.al, vMn (Nat.lt_irrefl _), vMt]) (fun c i s hi hs => by
   have hai := hs.rest i hi (Nat.lt_irrefl i)
   have hr := hx.res i hi
   have hsp := zIh hl i
   obtain ⟨a', p', h1, h2⟩ := yUr (a0 := s.1.set i ((s.1.getD i ad).1, ((s.1.getD i ad).2.1, vS (s.1.getD i ad).2.2 (zP (gR i) l)))) (p0 := s.2) hk hkl hn hx hl hi b0 b1 b2 b3 b m ⟨by rw [List.length_set]; exact hs.al, fun x hxn hxi => by
     rw [wI, if_neg (fun e => by omega)]; exact hs.done x hxn hxi, by
     rw [wI, if_pos ⟨rfl, by rw [hs.al]; exact hi⟩, hai]
     show _ = ((a.getD i ad).1 - 0, _, _)
     rw [Int.sub_zero], fun x hxn hxi => by
     rw [wI, if_neg (fun e => by omega)]; exact hs.rest x hxn (by omega), hs.pl, hs.pr, fun x hxn y hyn => by
     rw [hs.cell x hxn y hyn]
     by_cases h : x < i
     ·rw [if_pos h, if_pos (.inl h)]
     ·rw [if_neg h, if_neg (by omega)]⟩
   refine ⟨(a', p'), ?_, ?_⟩
   ·show zNt k _ l i b0 b1 b2 b3 s.1 b m s.2 = _
    unfold zNt
    have hK := qW0 k (s.1.getD i ad).1 (s.1.getD i ad).2.1 (s.1.getD i ad).2.2 (zP (gR i) l) (by rw [hai]; omega) (by rw [hai]; omega) hsp.1
    simp only [qH, zY, vMu, hs.al, vMm hi, vMs, yTv hkl hl, vMr]
    rw [hK]
    simp only [vMr]
    rw [h1]
    simp only [vMr, qO hi (show n < 9223372036854775808 by omega)]
   ·refine ⟨h2.al, fun x hxn hxi => ?_, fun x hxn hxi => h2.rest x hxn (by omega), h2.pl, h2.pr, fun x hxn y hyn => ?_⟩
    ·by_cases h : x < i
     ·exact h2.done x hxn h
     ·have : x = i := by omega
      subst this
      rw [h2.here, yK1 hl.1 x hxn]
      rw [Int.sub_neg]
    ·rw [h2.cell x hxn y hyn]
     by_cases h : x < i + 1
     ·rw [if_pos (by omega), if_pos h]
     ·rw [if_neg (by omega), if_neg h]) (s := (a, p)) hk ⟨hx.al, fun x _ h => absurd h (Nat.not_lt_zero x), fun x _ _ => rfl, hx.pl, hx.pr, fun x _ y _ => by rw [if_neg (Nat.not_lt_zero x)]⟩
 exact ⟨s.1, s.2, h1, h2.al, fun i hi => h2.done i hi hi, h2.pl, h2.pr, fun i hi j hj => by rw [h2.cell i hi j hj, if_pos hi]⟩
def zD4 (a : List qM) (b : List (List Int)) (m : List Int) (p : List (List Int)) (l : List zB) (r : List qM × List (List Int) × List Int × List (List Int) × Int) : Prop :=
 (vI a.length l → ∃ a' p', zFw a.length a p l a' p' ∧ r = (bif isB a' b m p' then (a', b, m, p', 0) else (a, b, m, p, 8))) ∧ (¬ vI a.length l → r = (a, b, m, p, 1))
theorem zYu {k : Nat} (hk : 100 < k) {a : List qM} {b : List (List Int)} {m : List Int} {p : List (List Int)} {l : List zB} (h : vY a b m p) (hl : l.length ≤ 80) : ∃ r, zDu k a b m p l = some r ∧ zD4 a b m p l r := by
 unfold zDu zD4
 have e : decide (((l.length : Nat) : Int) > 64) = decide (¬ l.length ≤ 64) := by
  by_cases h : l.length ≤ 64
  ·rw [vMn (by omega), vMn (by omega)]
  ·rw [vMm (by omega), vMm (by omega)]
 rw [e]
 by_cases h64 : l.length ≤ 64
 case neg =>
  rw [vMm h64]
  exact ⟨_, rfl, fun e => absurd e.2 h64, fun _ => rfl⟩
 rw [vMn (by omega), vEs (by omega) (by omega)]
 simp only [vMt, vMr]
 cases hm : zB5 a.length l with
 | false =>
  refine ⟨_, rfl, fun e => ?_, fun _ => rfl⟩
  rw [zL6.2 e.1] at hm
  cases hm
 | true =>
  have hrow : vI a.length l := ⟨zL6.1 hm, h64⟩
  simp only [vMw, vMt, zQq (show 10 < k by omega) h.toSized, vMr]
  obtain ⟨a', p', h1, h2⟩ := yY8 (b := b) (m := m) (show l.length < k by omega) h.nums hrow a b m p
  rw [h1]
  simp only [vMr, yB6 (show 10 < k by omega)]
  cases hB : isB a' b m p' with
  | true => exact ⟨_, rfl, fun _ => ⟨a', p', h2, by rw [hB]; rfl⟩, fun e => absurd hrow e⟩
  | false => exact ⟨_, rfl, fun _ => ⟨a', p', h2, by rw [hB]; rfl⟩, fun e => absurd hrow e⟩
theorem vI9 {k : Nat} (hk : 100 < k) {a : List qM} {b : List (List Int)} {m : List Int} {p : List (List Int)} {l : List zB} (h : vY a b m p) (hl : l.length ≤ 80) : ∃ r, zR4 k a b m p l = some r ∧ zD4 a b m p l r := by
 unfold zR4 zD4
 rw [qXu (by omega) (by omega)]
 simp only [vMr]
 cases hm : zB5 a.length l with
 | false =>
  refine ⟨_, rfl, fun e => ?_, fun _ => rfl⟩
  rw [zL6.2 e.1] at hm
  cases hm
 | true =>
  by_cases h64 : l.length ≤ 64
  case neg =>
   rw [vMn h64]
   exact ⟨_, rfl, fun e => absurd e.2 h64, fun _ => rfl⟩
  have hrow : vI a.length l := ⟨zL6.1 hm, h64⟩
  have h6 := h.n6
  rw [vMm h64]
  simp only [Bool.and_true, vMw, vMt, ySb (show 10 < k by omega) h.toSized, vMr]
  obtain ⟨a', p', h1, h2⟩ := yRa (b := b) (m := m) (show a.length < k by omega) (show l.length < k by omega) (by omega) h.nums hrow a b m p
  rw [h1]
  simp only [vMr, qQc (show 10 < k by omega)]
  cases hB : isB a' b m p' with
  | true => exact ⟨_, rfl, fun _ => ⟨a', p', h2, by rw [hB]; rfl⟩, fun e => absurd hrow e⟩
  | false => exact ⟨_, rfl, fun _ => ⟨a', p', h2, by rw [hB]; rfl⟩, fun e => absurd hrow e⟩
theorem zD4.same {a : List qM} {b : List (List Int)} {m : List Int} {p : List (List Int)} {l : List zB} {r r' : List qM × List (List Int) × List Int × List (List Int) × Int} (h : zD4 a b m p l r) (h' : zD4 a b m p l r') : r = r' := by
 by_cases c : vI a.length l
 ·obtain ⟨a1, p1, x, rfl⟩ := h.1 c
  obtain ⟨a2, p2, y, rfl⟩ := h'.1 c
  obtain ⟨rfl, rfl⟩ := x.same y
  rfl
 ·rw [h.2 c, h'.2 c]
theorem zQ3 {a : List qM} {b : List (List Int)} {m : List Int} {p : List (List Int)} {l : List zB} {r : List qM × List (List Int) × List Int × List (List Int) × Int} (hb : vY a b m p) (h : zD4 a b m p l r) :
  zW (fun i => (r.1.getD i ad).1) a.length = zW (fun i => (a.getD i ad).1) a.length ∧ vY r.1 r.2.1 r.2.2.1 r.2.2.2.1 ∧ (r.2.2.2.2 = 0 ∨ (r.1 = a ∧ r.2.1 = b ∧ r.2.2.1 = m ∧ r.2.2.2.1 = p)) := by
 by_cases c : vI a.length l
 ·obtain ⟨a', p', x, e⟩ := h.1 c
  cases hi : isB a' b m p' with
  | false =>
   rw [hi] at e
   subst e
   exact ⟨rfl, hb, .inr ⟨rfl, rfl, rfl, rfl⟩⟩
  | true =>
   rw [hi] at e
   subst e
   refine ⟨?_, zPe.1 hi, .inl rfl⟩
   have e1 : zW (fun i => (a'.getD i ad).1) a.length = zW (fun i => (a.getD i ad).1 + zP (gB i) l) a.length := zBb fun j hj => by rw [x.acct j hj]
   show zW (fun i => (a'.getD i ad).1) a.length = _
   rw [e1, zHw, zVl]
   have e2 : zP (fun p => zW (fun j => gB j p) a.length) l = zP (fun _ => (0 : Int)) l := zUl fun p hp => by
    obtain ⟨f0, f1, t0, t1, ne, a1, a2, c1, c3⟩ := c.1 p hp
    obtain ⟨f, hf⟩ : ∃ f : Nat, p.2.1 = f := ⟨p.2.1.toNat, by omega⟩
    obtain ⟨t, ht⟩ : ∃ t : Nat, p.2.2.1 = t := ⟨p.2.2.1.toNat, by omega⟩
    have g1 : ∀ j, gB j p = (if j = t then p.2.2.2.1 else 0) + (if j = f then -p.2.2.2.1 else 0) := by
     intro j
     unfold gB
     rw [hf, ht]
     by_cases c : j = t <;> by_cases d : j = f <;> (repeat (first | rw [if_pos (by omega)] | rw [if_neg (by omega)])) <;> omega
    rw [zBb fun j _ => g1 j, zHw, zHv, zHv, if_pos (by omega), if_pos (by omega)]
    omega
   have e3 : ∀ l : List zB, zP (fun _ : zB => (0 : Int)) l = 0 := by
    intro l
    induction l with
    | nil => rfl
    | cons p l ih => show 0 + zP _ l = 0; rw [ih]; rfl
   rw [e2, e3, Int.add_zero]
 ·have e := h.2 c
  subst e
  exact ⟨rfl, hb, .inr ⟨rfl, rfl, rfl, rfl⟩⟩
theorem vHt {k n i : Nat} {p : List (List Int)} (hk : n < k) (hn : n ≤ 100) (hi : i < n) (hp : p.length = n) (hr : (p.getD i []).length = n) (hb : ∀ j, -72057594037927936 ≤ cell p i j ∧ cell p i j ≤ 72057594037927936) (a : List qM) (b : List (List Int)) (m : List Int) :
  zYi k a b m p i = some (zW (cell p i) n) := by
 obtain ⟨s, h1, h2⟩ := vO (L := fun c j (s : Int) => zMr k c i s j a b m p) (N := n) (fun s => s) (fun j s => s = zW (cell p i) j) (fun c s hs => by
   show zJv k _ i s n a b m p = _
   unfold zJv
   simp only [qH, zY, vMu, hp, hr, vMm hi, vMn (Nat.lt_irrefl _), vMt, vMs]) (fun c j s hj hs => by
   refine ⟨zW (cell p i) (j + 1), ?_, rfl⟩
   show zJv k _ i s j a b m p = _
   have h1 := zGt hb j
   have h2 := hb j
   have h3 : (j : Int) * 72057594037927936 ≤ 100 * 72057594037927936 := by omega
   unfold zJv
   simp only [qH, qO hj (show n < 9223372036854775808 by omega), zY, vMu, hp, hr, vMm hi, vMm hj, vMs]
   show zMr k c i (zA (s + cell p i j)) _ a b m p = _
   rw [hs, zU (by omega) (by omega)]
   rfl) (s := 0) hk rfl
 unfold zYi
 rw [h1, h2]
 rfl
theorem zXd {a : List qM} {b : List (List Int)} {m : List Int} {p : List (List Int)} (hb : vY a b m p) {i : Nat} (hi : i < a.length) (j : Nat) : -72057594037927936 ≤ cell p i j ∧ cell p i j ≤ 72057594037927936 := by
 by_cases hj : j < a.length
 ·have := hb.net i hi j hj
  simp only [jY, vMv, vMq] at this
  omega
 ·have : cell p i j = 0 := by
   unfold cell
   rw [List.getD_eq_getElem?_getD, List.getElem?_eq_none]
   ·rfl
   ·rw [hb.pr i hi]; omega
  omega
theorem qJx {S X : Type} {L : Nat → Int → S → Option X} {N : Nat} (ok : Nat → Bool) (e : S → X) (b : X) (inv : Nat → S → Prop) (hend : ∀ n s, inv N s → L (n + 1) (N : Int) s = some (e s))
  (hstep : ∀ n i s, i < N → inv i s → (ok i = true → ∃ s', L (n + 1) (i : Int) s = L n ((i + 1 : Nat) : Int) s' ∧ inv (i + 1) s') ∧ (ok i = false → L (n + 1) (i : Int) s = some b)) :
  ∀ c i n s, i + c = N → c < n → inv i s → (qI ok c i = true ∧ ∃ s', L n (i : Int) s = some (e s') ∧ inv N s') ∨ (qI ok c i = false ∧ L n (i : Int) s = some b)
 | 0, i, n, s, h, hn, hs => by
  obtain ⟨n, rfl⟩ : ∃ m, n = m + 1 := ⟨n - 1, by omega⟩
  have : i = N := by omega
  subst this
  exact .inl ⟨rfl, s, hend n s hs, hs⟩
 | c + 1, i, n, s, h, hn, hs => by
  obtain ⟨n, rfl⟩ : ∃ m, n = m + 1 := ⟨n - 1, by omega⟩
  obtain ⟨h1, h2⟩ := hstep n i s (by omega) hs
  unfold qI
  cases ho : ok i with
  | true =>
   obtain ⟨s', h3, h4⟩ := h1 ho
   rw [h3]
   simp only [Bool.true_and]
   exact qJx ok e b inv hend hstep c (i + 1) n s' (by omega) (by omega) h4
  | false => exact .inr ⟨rfl, h2 ho⟩
def dS (l : List zB) (i j : Nat) : Int := zP (gS i j) l - zP (gS j i) l
def zD7 (b p : List (List Int)) (l : List zB) (i j : Nat) : Bool := !(decide (zP (gS i j) l > 0) && (!decide (cell b i j = -1) && decide (cell p i j + dS l i j > cell b i j)))
def wV (a : List qM) (b : List (List Int)) (m : List Int) (p : List (List Int)) (l : List zB) (i : Nat) : Bool :=
 !decide (zP (gN i) l + zP (gR i) l = 0) && (!qI (zD7 b p l i) a.length 0 || (decide ((a.getD i ad).1 + (a.getD i ad).2.1 + zP (gB i) l < 0) ||
  ((decide (zP (gN i) l > 0) && decide ((a.getD i ad).1 + (a.getD i ad).2.1 + zP (gB i) l < vS (a.getD i ad).2.2 (zP (gR i) l))) ||
   (!decide (m.getD i 0 = -1) && decide (zW (cell p i) a.length - zP (gB i) l > m.getD i 0)))))
theorem zMx {n : Nat} {l : List zB} (hl : vI n l) (i j : Nat) : -70368744177664 ≤ dS l i j ∧ dS l i j ≤ 70368744177664 := by
 have h1 := zEx hl i j
 have h2 := zEx hl j i
 unfold dS
 omega
theorem yVx {k : Nat} {a : List qM} {b : List (List Int)} {m : List Int} {p : List (List Int)} {l : List zB} (hk : 100 < k) (hb : vY a b m p) (hl : vI a.length l) {i : Nat} (hi : i < a.length) (x y n0 net0 : Int)
  (hn0 : -6917529027641081856 ≤ n0 ∧ n0 ≤ 6917529027641081856) (hnet : -576460752303423488 ≤ net0 ∧ net0 ≤ 576460752303423488) :
  zD2 k k l i x y n0 net0 0 a b m p = some (bif qI (zD7 b p l i) a.length 0 then .inl ((i : Int), x, y, n0 - zW (dS l i) a.length, net0 + zW (dS l i) a.length, a, b, m, p) else .inr true) := by
 have h6 := hb.n6
 have hkl : l.length < k := by have := hl.2; omega
 have := qJx (L := fun c j (s : Int × Int) => zD2 k c l i x y s.1 s.2 j a b m p) (N := a.length) (zD7 b p l i) (fun s => .inl ((i : Int), x, y, s.1, s.2, a, b, m, p)) (.inr true) (fun j s => s = (n0 - zW (dS l i) j, net0 + zW (dS l i) j)) (fun c s hs => by
   show zLq k _ l i x y s.1 s.2 a.length a b m p = _
   unfold zLq
   simp only [zY, vMn (Nat.lt_irrefl _), vMt]) (fun c j s hj hs => by
   have hs1 := zGt (fun j => zMx hl i j) j
   have hs2 := zMx hl i j
   have hj1 : (j : Int) * 70368744177664 ≤ 6 * 70368744177664 := by omega
   have hnet := hb.nums.net i hi j hj
   have e1 : zD2 k (c + 1) l i x y s.1 s.2 j a b m p = bif zD7 b p l i j then zD2 k c l i x y (n0 - zW (dS l i) (j + 1)) (net0 + zW (dS l i) (j + 1)) ((j + 1 : Nat) : Int) a b m p else some (.inr true) := by
    show zLq k _ l i x y s.1 s.2 j a b m p = _
    unfold zLq
    simp only [qH, qO hj (show a.length < 9223372036854775808 by omega), zY, vMu, vMm hi, vMm hj, vMs, qFe hkl hl, vMr, hb.bl, hb.br i hi, hb.pl, hb.pr i hi]
    have ed : zA (zP (gS i j) l - zP (gS j i) l) = dS l i j := zU (by have := hs2.1; unfold dS at this; omega) (by have := hs2.2; unfold dS at this; omega)
    rw [ed]
    have e2 : zA (s.1 - dS l i j) = n0 - zW (dS l i) (j + 1) := by
     rw [hs]
     show zA (n0 - zW (dS l i) j - dS l i j) = n0 - (zW (dS l i) j + dS l i j)
     rw [zU (by omega) (by omega)]
     omega
    have e3 : zA (s.2 + dS l i j) = net0 + zW (dS l i) (j + 1) := by
     rw [hs]
     show zA (net0 + zW (dS l i) j + dS l i j) = net0 + (zW (dS l i) j + dS l i j)
     rw [zU (by omega) (by omega)]
     omega
    rw [e2, e3]
    show (bif decide (zP (gS i j) l > 0) then (bif !decide (cell b i j = -1) then (bif decide (zA (cell p i j + dS l i j) > cell b i j) then _ else _) else _) else _) = _
    rw [zU (x := cell p i j + dS l i j) (by omega) (by omega)]
    unfold zD7
    cases decide (zP (gS i j) l > 0) <;> cases decide (cell b i j = -1) <;> cases decide (cell p i j + dS l i j > cell b i j) <;> rfl
   refine ⟨fun ho => ⟨_, ?_, rfl⟩, fun ho => ?_⟩
   ·rw [e1, ho]; rfl
   ·rw [e1, ho]; rfl) a.length 0 k (n0, net0) (by omega) (by omega) (by
    show (n0, net0) = (n0 - 0, net0 + 0)
    rw [Int.sub_zero, Int.add_zero])
 rcases this with ⟨h1, s, h2, h3⟩ | ⟨h1, h2⟩
 ·have h2' : zD2 k k l i x y n0 net0 0 a b m p = _ := h2
  rw [h2', h1, h3]
  rfl
 ·have h2' : zD2 k k l i x y n0 net0 0 a b m p = _ := h2
  rw [h2', h1]
  rfl
theorem qZ5 {n : Nat} {l : List zB} (hl : ∀ p ∈ l, yM n p) (i : Nat) (hi : i < n) : zW (dS l i) n = - zP (gB i) l := yK1 hl i hi
theorem vCr {k : Nat} {a : List qM} {b : List (List Int)} {m : List Int} {p : List (List Int)} {l : List zB} (hk : 100 < k) (hb : vY a b m p) (hl : vI a.length l) {i : Nat} (hi : i < a.length) : zVb k a b m p l i = some (wV a b m p l i) := by
 have h6 := hb.n6
 have hkl : l.length < k := by have := hl.2; omega
 have hN := yAw hl i
 have hR := zIh hl i
 have hB := qAw hl i
 have hx := hb.acct i hi
 simp only [jH, vMv, vMq] at hx
 have hbal : -4611686018427387904 < (a.getD i ad).1 ∧ (a.getD i ad).1 < 4611686018427387904 ∧ 0 ≤ (a.getD i ad).2.1 ∧ (a.getD i ad).2.1 ≤ 2305843009213693952 ∧ 0 ≤ (a.getD i ad).2.2 ∧ (a.getD i ad).2.2 ≤ 2305843009213693952 := ⟨hx.1, hx.2.1, hx.2.2.1, hx.2.2.2.1, hx.2.2.2.2.1, hx.2.2.2.2.2⟩
 have hnet := zGt (zXd hb hi) a.length
 have hnl : (a.length : Int) * 72057594037927936 ≤ 6 * 72057594037927936 := by omega
 unfold zVb
 rw [qW1 hkl hl]
 simp only [vMr]
 rw [zU (x := zP (gN i) l + zP (gR i) l) (by omega) (by omega)]
 unfold wV
 cases hz : decide (zP (gN i) l + zP (gR i) l = 0) with
 | true => rfl
 | false =>
  rw [qH, vMm hi]
  simp only [vMs, vMt, vMu]
  rw [vHt (by omega) (by omega) hi hb.pl (hb.pr i hi) (zXd hb hi)]
  simp only [vMr]
  rw [zU (x := (a.getD i (0, (0, 0))).1 + (a.getD i (0, (0, 0))).2.1) (by omega) (by omega)]
  rw [yVx hk hb hl hi _ _ _ _ (by omega) (by omega), qZ5 hl.1 i hi]
  simp only [Int.sub_neg]
  cases qI (zD7 b p l i) a.length 0 with
  | false => rfl
  | true =>
   have hK := qW0 k (a.getD i ad).1 (a.getD i ad).2.1 (a.getD i ad).2.2 (zP (gR i) l) (by omega) (by omega) hR.1
   simp only [vMs, vMr, vMx, vMw, Bool.true_and, Bool.false_or, qH, vMu, vMm hi, hb.ml]
   show (bif decide ((a.getD i ad).1 + (a.getD i ad).2.1 + zP (gB i) l < 0) then _ else bif decide (zP (gN i) l > 0) then (zJ6 k (a.getD i ad).1 (a.getD i ad).2.1 (a.getD i ad).2.2 (zP (gR i) l)).bind _ else _) = _
   rw [hK]
   simp only [vMr]
   have en : zW (cell p i) a.length + -zP (gB i) l = zW (cell p i) a.length - zP (gB i) l := by omega
   rw [en]
   cases decide ((a.getD i ad).1 + (a.getD i ad).2.1 + zP (gB i) l < 0) <;> cases decide (zP (gN i) l > 0) <;> cases decide ((a.getD i ad).1 + (a.getD i ad).2.1 + zP (gB i) l < vS (a.getD i ad).2.2 (zP (gR i) l)) <;> cases decide (m.getD i 0 = -1) <;> rfl
theorem yWj {k : Nat} {a : List qM} {b : List (List Int)} {m : List Int} {p : List (List Int)} {l : List zB} (hk : 100 < k) (hb : vY a b m p) (hl : vI a.length l) : ∃ r, zWc k a b m p l = some r ∧ (r = [] ↔ qI (fun i => !wV a b m p l i) a.length 0 = true) := by
 have h6 := hb.n6
 obtain ⟨r, h1, h2⟩ := vO (L := fun c i (r : List Int) => zHg k c l i a b m p r) (N := a.length) (fun r => r) (fun i r => (r = [] ↔ ∀ j, j < i → wV a b m p l j = false) ∧ r.length ≤ i) (fun c r hr => by
   show zKj k _ l a.length a b m p r = _
   unfold zKj
   simp only [zY, vMn (Nat.lt_irrefl _), vMt]) (fun c i r hi hr => by
   have hroom : qR (r.length + 1) 8 = true := vR (by omega) (by omega)
   have e : zHg k (c + 1) l i a b m p r = zHg k c l ((i + 1 : Nat) : Int) a b m p (bif wV a b m p l i then r ++ [(i : Int)] else r) := by
    show zKj k _ l i a b m p r = _
    unfold zKj
    simp only [qO hi (show a.length < 9223372036854775808 by omega), zY, vMm hi, vMs, vCr hk hb hl hi, vMr, hroom]
    cases wV a b m p l i <;> rfl
   refine ⟨_, e, ?_⟩
   cases hs : wV a b m p l i with
   | true =>
    refine ⟨⟨fun h => ?_, fun h => ?_⟩, by simp only [vMs, List.length_append, List.length_cons, List.length_nil]; omega⟩
    ·simp at h
    ·rw [h i (Nat.lt_succ_self i)] at hs; cases hs
   | false =>
    refine ⟨⟨fun h j hj => ?_, fun h => ?_⟩, by simp only [vMt]; omega⟩
    ·by_cases c : j = i
     ·subst c; exact hs
     ·exact hr.1.1 h j (by omega)
    ·exact hr.1.2 fun j hj => h j (by omega)) (s := []) (show a.length < k by omega) ⟨⟨fun _ j hj => absurd hj (Nat.not_lt_zero j), fun _ => rfl⟩, Nat.le_refl 0⟩
 unfold zWc
 rw [h1]
 refine ⟨r, rfl, h2.1.trans ?_⟩
 rw [jU]
 exact ⟨fun h j hj => by rw [h j hj]; rfl, fun h j hj => by have := h j hj; simpa using this⟩
def zPs (a : List qM) (b : List (List Int)) (m : List Int) (p : List (List Int)) (l : List zB) : Bool := (zB5 a.length l && decide (l.length ≤ 64)) && qI (fun i => !wV a b m p l i) a.length 0
theorem yV1 {k : Nat} {a : List qM} {b : List (List Int)} {m : List Int} {p : List (List Int)} {l : List zB} (hk : 100 < k) (hb : vY a b m p) (hl : l.length ≤ 80) : zSs k a b m p l = some (zPs a b m p l) := by
 unfold zSs zPs
 rw [qXu (by omega) (by omega)]
 simp only [vMr]
 cases hm : (zB5 a.length l && decide (l.length ≤ 64)) with
 | false => rfl
 | true =>
  simp only [vMv, vMq] at hm
  obtain ⟨r, h1, h2⟩ := yWj hk hb ⟨zL6.1 hm.1, hm.2⟩
  simp only [vMs, h1, vMr, Bool.true_and]
  congr 1
  cases hr : qI (fun i => !wV a b m p l i) a.length 0 with
  | true =>
   have := h2.2 hr
   subst this
   rfl
  | false =>
   apply vMn
   intro h
   have : r = [] := List.length_eq_zero_iff.1 (by omega)
   rw [h2.1 this] at hr
   cases hr
theorem yU5 {k n i : Nat} {p : List (List Int)} (hk : n < k) (hn : n ≤ 100) (hi : i < n) (hp : p.length = n) (hr : (p.getD i []).length = n) (hb : ∀ j, -72057594037927936 ≤ cell p i j ∧ cell p i j ≤ 72057594037927936) (a : List qM) (b : List (List Int)) (m : List Int) :
  zUt k a b m p i = some (zW (cell p i) n) := by
 obtain ⟨s, h1, h2⟩ := vO (L := fun c j (s : Int) => zJx k c s (p.getD i []) n j) (N := n) (fun s => s) (fun j s => s = zW (cell p i) j) (fun c s hs => by
   show zOa k _ s (p.getD i []) n n = _
   unfold zOa
   simp only [zY, vMn (Nat.lt_irrefl _), vMt]) (fun c j s hj hs => by
   refine ⟨zW (cell p i) (j + 1), ?_, rfl⟩
   show zOa k _ s (p.getD i []) n j = _
   have h1 := zGt hb j
   have h2 := hb j
   have h3 : (j : Int) * 72057594037927936 ≤ 100 * 72057594037927936 := by omega
   unfold zOa
   simp only [qH, qO hj (show n < 9223372036854775808 by omega), zY, vMu, hr, vMm hj, vMs]
   show zJx k c (zA (s + cell p i j)) _ _ _ = _
   rw [hs, zU (by omega) (by omega)]
   rfl) (s := 0) hk rfl
 unfold zUt
 simp only [qH, hp, vMm hi, vMs, vMu, hr]
 rw [h1, h2]
 rfl
theorem qX4 (k : Nat) {n : Nat} (hn : n ≤ 6) : zO0 k n = some true := by
 unfold zO0
 rw [vMm (by omega), vMm (by omega)]; rfl
theorem yA0 {α : Type} (v z : α) (n i : Nat) (hi : i < n) : (List.replicate i v ++ List.replicate (n - i) z).set i v = List.replicate (i + 1) v ++ List.replicate (n - (i + 1)) z := by
 have e : List.replicate (n - i) z = z :: List.replicate (n - (i + 1)) z := by
  rw [show n - i = (n - (i + 1)) + 1 by omega]; rfl
 rw [List.set_append_right _ _ (by simp), List.length_replicate, Nat.sub_self, e]
 simp [List.replicate_succ']
theorem yJw {n b : Nat} (hn : n ≤ 1000) (hb : b ≤ 1000) : zL2 (n : Int) (n : Int) b = true := by
 unfold zL2
 have h : (n : Int) * (b : Int) ≤ 1000000 := by
  have : n * b ≤ 1000 * 1000 := Nat.mul_le_mul hn hb
  have e : ((n * b : Nat) : Int) = (n : Int) * (b : Int) := by simp
  omega
 simp only [vMv, vMq]
 omega
theorem yAy {k n : Nat} (hk : n < k) (hn : n ≤ 6) (v : Int) : zHp k n v = some (List.replicate n v) := by
 unfold zHp
 rw [qX4 k hn]
 obtain ⟨s, h1, h2⟩ := vO (L := fun c i (s : List Int) => zQu k c v n i s) (N := n) (fun s => s) (fun i s => s = List.replicate i v ++ List.replicate (n - i) 0) (fun c s hs => by
   show zOh k _ v n n s = _
   unfold zOh
   simp only [zY, vMn (Nat.lt_irrefl _), vMt]) (fun c i s hi hs => by
   refine ⟨_, ?_, rfl⟩
   show zOh k _ v n i s = _
   have hl : s.length = n := by rw [hs]; simp; omega
   unfold zOh
   simp only [qH, qO hi (show n < 9223372036854775808 by omega), zY, vMu, vMm hi, vMs, hl]
   rw [hs, yA0 v 0 n i hi]) (s := List.replicate n 0) hk (by simp)
 simp only [vMr, vMw, vMt, yJw (n := n) (b := 8) (by omega) (by omega), vMs, vMu, List.length_replicate]
 rw [h1, h2]
 simp
theorem yPo {k n : Nat} (hk : n < k) (hn : n ≤ 6) (v : Int) : zKy k n v = some (List.replicate n (List.replicate n v)) := by
 unfold zKy
 rw [qX4 k hn]
 obtain ⟨s, h1, h2⟩ := vO (L := fun c i (s : List (List Int)) => zQm k c n v n i s) (N := n) (fun s => s) (fun i s => s = List.replicate i (List.replicate n v) ++ List.replicate (n - i) []) (fun c s hs => by
   show zNp k _ n v n n s = _
   unfold zNp
   simp only [zY, vMn (Nat.lt_irrefl _), vMt]) (fun c i s hi hs => by
   refine ⟨_, ?_, rfl⟩
   show zNp k _ n v n i s = _
   have hl : s.length = n := by rw [hs]; simp; omega
   unfold zNp
   simp only [qH, qO hi (show n < 9223372036854775808 by omega), zY, vMu, vMm hi, vMs, hl, yAy hk hn, vMr]
   rw [hs, yA0 (List.replicate n v) [] n i hi]) (s := List.replicate n []) hk (by simp)
 simp only [vMr, vMw, vMt, yJw (n := n) (b := 24) (by omega) (by omega), vMs, vMu, List.length_replicate]
 rw [h1, h2]
 simp
def zLx (a : List qM) (b : List (List Int)) (m : List Int) (p : List (List Int)) (l : List zB) : List Int := ((List.range a.length).filter fun i => wV a b m p l i).map fun (i : Nat) => (i : Int)
structure zYp (n : Nat) (l : List zB) (r2 r3 : List Int) (m4 : List (List Int)) : Prop where
 l2 : r2.length = n
 l3 : r3.length = n
 l4 : m4.length = n
 r4 : ∀ i, i < n → (m4.getD i []).length = n
 more : ∀ i, i < n → r2.getD i 0 = zP (gB i) l
 spent : ∀ i, i < n → r3.getD i 0 = zP (gR i) l
 sent : ∀ i, i < n → ∀ j, j < n → cell m4 i j = dS l i j
def zR8 (p : zB) (r : List Int) : List Int :=
 let y0 := r.set p.2.1.toNat (zA (r.getD p.2.1.toNat 0 - p.2.2.2.1))
 y0.set p.2.2.1.toNat (zA (y0.getD p.2.2.1.toNat 0 + p.2.2.2.1))
def zRp (p : zB) (r : List Int) : List Int := bif !decide (p.2.2.2.2.1 = 3) then r.set p.2.1.toNat (zA (r.getD p.2.1.toNat 0 + p.2.2.2.1)) else r
theorem yQm {n : Nat} {p : zB} (h : yM n p) {r : List Int} (hr : r.length = n) {i : Nat} (hi : i < n) (hb : ∀ i, i < n → -4611826755915743232 < r.getD i 0 ∧ r.getD i 0 < 4611826755915743232) : (zR8 p r).getD i 0 = r.getD i 0 + gB i p := by
 obtain ⟨f0, f1, t0, t1, ne, a1, a2, c1, c3⟩ := h
 obtain ⟨f, hf⟩ : ∃ f : Nat, p.2.1 = f := ⟨p.2.1.toNat, by omega⟩
 obtain ⟨t, ht⟩ : ∃ t : Nat, p.2.2.1 = t := ⟨p.2.2.1.toNat, by omega⟩
 have hft : f ≠ t := by omega
 have hfn : f < n := by omega
 have htn : t < n := by omega
 unfold zR8 gB
 simp only [hf, ht, vMu]
 have b1 := hb f hfn
 have b2 := hb t htn
 have key : ∀ x, (r.set f (zA (r.getD f 0 - p.2.2.2.1))).getD x 0 = if f = x then zA (r.getD f 0 - p.2.2.2.1) else r.getD x 0 := fun x => by
  rw [wI]
  by_cases e : f = x
  ·rw [if_pos ⟨e, by omega⟩, if_pos e]
  ·rw [if_neg (fun h => e h.1), if_neg e]
 rw [wI, List.length_set, key t, if_neg hft, key i]
 by_cases h1 : t = i
 ·subst h1
  rw [if_pos ⟨rfl, by omega⟩, if_pos rfl, if_neg (by omega), zU (by omega) (by omega)]
  omega
 ·rw [if_neg (fun e => h1 e.1), if_neg (c := ((t : Int) = i)) (by omega)]
  by_cases h2 : f = i
  ·subst h2
   rw [if_pos rfl, if_pos rfl, zU (by omega) (by omega)]
   omega
  ·rw [if_neg h2, if_neg (by omega)]
   omega
theorem yYu {n : Nat} {p : zB} (h : yM n p) {r : List Int} (hr : r.length = n) {i : Nat} (hi : i < n) (hb : ∀ i, i < n → -4611826755915743232 < r.getD i 0 ∧ r.getD i 0 < 4611826755915743232) : (zRp p r).getD i 0 = r.getD i 0 + gR i p := by
 obtain ⟨f0, f1, t0, t1, ne, a1, a2, c1, c3⟩ := h
 obtain ⟨f, hf⟩ : ∃ f : Nat, p.2.1 = f := ⟨p.2.1.toNat, by omega⟩
 have hfn : f < n := by omega
 have b1 := hb f hfn
 unfold zRp gR
 simp only [hf, vMu]
 by_cases hc : p.2.2.2.2.1 = 3
 ·rw [vMm hc, if_neg (fun e => e.2 hc)]
  simp
 ·rw [vMn hc]
  simp only [vMx, vMs]
  rw [wI]
  by_cases h2 : f = i
  ·subst h2
   rw [if_pos ⟨rfl, by omega⟩, if_pos ⟨rfl, hc⟩, zU (by omega) (by omega)]
  ·rw [if_neg (fun e => h2 e.1), if_neg (fun e => h2 (by omega))]
   omega
theorem yX4 (l : List zB) (p : zB) (i j : Nat) : dS (l ++ [p]) i j = dS l i j + gS i j p - gS j i p := by
 unfold dS
 rw [zAm, zAm]
 dsimp only [zP]
 omega
theorem zPr {α : Type} (n i : Nat) (v d : α) (h : i < n) : (List.replicate n v).getD i d = v := by
 simp [List.getD, h]
theorem vBx {k n : Nat} {l : List zB} (hk : 100 < k) (hn : n ≤ 6) (hl : vI n l) : ∃ r2 r3 m4, zWw k n l = some (r2, r3, m4) ∧ zYp n l r2 r3 m4 := by
 have hl64 := hl.2
 have := vO (L := fun c i (s : List Int × List Int × List (List Int)) => zMg k c l l.length i s.1 s.2.1 s.2.2) (N := l.length) (fun s => s) (fun i s => zYp n (l.take i) s.1 s.2.1 s.2.2) (fun c s hs => by
   show zMe k _ l l.length l.length s.1 s.2.1 s.2.2 = _
   unfold zMe
   simp only [zY, vMn (Nat.lt_irrefl _), vMt]) (fun c i s hi hs => by
   have hmay : yM n (l.getD i pd) := hl.1 _ (wH hi)
   refine ⟨(zR8 (l.getD i pd) s.1, zRp (l.getD i pd) s.2.1, zGe (l.getD i pd) s.2.2), ?_, ?_⟩
   ·show zMe k _ l l.length i s.1 s.2.1 s.2.2 = _
    unfold zMe zR8 zRp zGe
    simp only [qH, qO hi (show l.length < 9223372036854775808 by omega), zY, vMu, vMm hi, vMs]
    obtain ⟨f0, f1, t0, t1, ne, a1, a2, c1, c3⟩ := hmay
    obtain ⟨f, hf⟩ : ∃ f : Nat, (l.getD i pd).2.1 = f := ⟨(l.getD i pd).2.1.toNat, by omega⟩
    obtain ⟨t, ht⟩ : ∃ t : Nat, (l.getD i pd).2.2.1 = t := ⟨(l.getD i pd).2.2.1.toNat, by omega⟩
    have hfn : f < n := by omega
    have htn : t < n := by omega
    have r1 := zP8 (x := zA ((s.2.2.getD f []).getD t 0 + (l.getD i pd).2.2.2.1)) (t := t) hs.l4 hs.r4 hfn
    simp only [hf, ht, vMu, qH, hs.l2, hs.l3, hs.l4, List.length_set, hs.r4 f hfn, r1 t htn, vMm hfn, vMm htn, vMs]
    cases decide ((l.getD i pd).2.2.2.2.1 = 3) <;> rfl
   ·have hrow := hl.take i
    have hp := qT2 hmay hs.l4 hs.r4 (fun i' hi' j' hj' => by
     rw [hs.sent i' hi' j' hj']
     have := zMx hrow i' j'
     omega)
    have hbM : ∀ i', i' < n → -4611826755915743232 < s.1.getD i' 0 ∧ s.1.getD i' 0 < 4611826755915743232 := fun i' hi' => by
     rw [hs.more i' hi']; have := qAw hrow i'; omega
    have hbS : ∀ i', i' < n → -4611826755915743232 < s.2.1.getD i' 0 ∧ s.2.1.getD i' 0 < 4611826755915743232 := fun i' hi' => by
     rw [hs.spent i' hi']; have := zIh hrow i'; omega
    refine ⟨by unfold zR8; simp [hs.l2], by unfold zRp; cases decide ((l.getD i pd).2.2.2.2.1 = 3) <;> simp [hs.l3], hp.1, hp.2.1, fun i' hi' => ?_, fun i' hi' => ?_, fun i' hi' j' hj' => ?_⟩
    ·rw [yQm hmay hs.l2 hi' hbM, hs.more i' hi', ← zAo l i pd hi, zAm]
     dsimp only [zP]
     omega
    ·rw [yYu hmay hs.l3 hi' hbS, hs.spent i' hi', ← zAo l i pd hi, zAm]
     dsimp only [zP]
     omega
    ·rw [hp.2.2 i' hi' j' hj', hs.sent i' hi' j' hj', ← zAo l i pd hi, yX4]) (n := k) (s := (List.replicate n 0, List.replicate n 0, List.replicate n (List.replicate n 0))) (by omega) ⟨by simp, by simp, by simp, fun i hi => by rw [zPr n i _ _ hi]; simp, fun i hi => by rw [zPr n i _ _ hi]; rfl, fun i hi => by rw [zPr n i _ _ hi]; rfl, fun i hi j hj => by
    unfold cell
    rw [zPr n i _ _ hi, zPr n j _ _ hj]
    rfl⟩
 obtain ⟨s, h1, h2⟩ := this
 rw [List.take_of_length_le (Nat.le_refl _)] at h2
 refine ⟨s.1, s.2.1, s.2.2, ?_, h2⟩
 unfold zWw
 rw [yAy (by omega) hn, yPo (by omega) hn]
 simp only [vMr]
 have h1' : zMg k k l l.length 0 (List.replicate n 0) (List.replicate n 0) (List.replicate n (List.replicate n 0)) = some s := h1
 rw [h1']
 rfl
theorem yRw {k : Nat} {l : List zB} (hk : l.length < k) (hl : l.length < 9223372036854775808) (i : Int) : zXg k l i = some (!qI (fun x => !decide ((l.getD x pd).2.1 = i)) l.length 0) := by
 obtain ⟨x, h1, h2⟩ := zFb (L := fun c x => zRi k c l l.length x i) (N := l.length) (fun x => decide ((l.getD x pd).2.1 = i)) (fun c => by
   show zNb k _ l l.length l.length i = _
   unfold zNb
   simp only [zY, vMn (Nat.lt_irrefl _), vMt]) (fun c x hx => by
   show zNb k _ l l.length x i = _
   unfold zNb qKn
   simp only [qH, qO hx hl, zY, vMu, vMm hx, vMs, vMr]) hk
 unfold zXg qM0
 rw [h1]
 rw [← h2]
 cases x <;> rfl
theorem yNr {n : Nat} {l : List zB} (hl : ∀ p ∈ l, yM n p) (i : Nat) : qI (fun x => !decide ((l.getD x pd).2.1 = i)) l.length 0 = decide (zP (gN i) l + zP (gR i) l = 0) := by
 have hN := zFy (g := gN i) (l := l) fun p hp => (zYe (hl p hp) i).1
 have hR := zFy (g := gR i) (l := l) fun p hp => (qA2 (hl p hp) i).1
 have e : zP (gN i) l + zP (gR i) l = zP (fun p : zB => if p.2.1 = (i : Int) then p.2.2.2.1 else 0) l := by
  rw [← yJk]
  refine zUl fun p hp => ?_
  unfold gN gR
  by_cases h1 : p.2.1 = i <;> by_cases h2 : p.2.2.2.2.1 = 3 <;> simp [h1, h2]
 rw [e]
 have h : ∀ (l : List zB), (∀ p ∈ l, yM n p) → ((∀ p ∈ l, ¬ p.2.1 = i) ↔ zP (fun p : zB => if p.2.1 = (i : Int) then p.2.2.2.1 else 0) l = 0) := by
  intro l
  induction l with
  | nil => intro _; simp [zP]
  | cons q l ih =>
   intro hm
   have ih := ih fun p hp => hm p (List.mem_cons_of_mem _ hp)
   have hq := hm q (List.mem_cons_self ..)
   have h0 : 0 ≤ zP (fun p : zB => if p.2.1 = i then p.2.2.2.1 else 0) l := zFy fun p hp => by
    have := (hm p (List.mem_cons_of_mem _ hp)).a1
    by_cases c : p.2.1 = i
    ·rw [if_pos c]; omega
    ·rw [if_neg c]; exact Int.le_refl 0
   unfold zP
   by_cases c : q.2.1 = i
   ·rw [if_pos c]
    have := hq.a1
    exact ⟨fun h => absurd c (h q (List.mem_cons_self ..)), fun h => by omega⟩
   ·rw [if_neg c, Int.zero_add, ← ih]
    exact ⟨fun h p hp => h p (List.mem_cons_of_mem _ hp), fun h p hp => by
     rcases List.mem_cons.1 hp with rfl | hp
     ·exact c
     ·exact h p hp⟩
 have hall : (∀ p ∈ l, ¬ p.2.1 = i) ↔ qI (fun x => !decide ((l.getD x pd).2.1 = i)) l.length 0 = true := by
  rw [jU]
  constructor
  ·intro h j hj
   simpa using h _ (wH hj)
  ·intro h p hp
   obtain ⟨j, hj, rfl⟩ := List.getElem_of_mem hp
   have := h j hj
   simpa [List.getD, hj] using this
 have := hall.symm.trans (h l hl)
 cases hc : qI (fun x => !decide ((l.getD x pd).2.1 = i)) l.length 0 with
 | true => rw [vMm (this.1 hc)]
 | false =>
  rw [vMn]
  intro h'
  rw [this.2 h'] at hc; cases hc
def zH8 (n lim : Int) : Bool := !decide (lim = -1) && decide (n > lim)
theorem yFt (k : Nat) (n lim : Int) : zKz k n lim = some (zH8 n lim) := by
 unfold zKz zH8
 cases decide (lim = -1) <;> rfl
theorem vBw (k : Nat) (b c r s : Int) (h : -9223372036854775808 ≤ r - s) (h' : r < 9223372036854775808) (hs : 0 ≤ s) : zFs k b c r s = some (vS r s) := by
 unfold zFs vS zQw
 rw [zU h (by omega), vMt]
 by_cases c : s ≥ r
 ·rw [if_pos c]
  by_cases e : r - s = 0
  ·rw [e]; rfl
  ·rw [vMm (show (0 : Int) > r - s by omega)]; rfl
 ·rw [if_neg c, vMn (show ¬ (0 : Int) > r - s by omega)]; rfl
def zIz (b p : List (List Int)) (l : List zB) (i : Nat) (short : Bool) (q : zB) : Bool :=
 decide (q.2.1 = i) && ((decide (q.2.2.2.2.1 = 3) && short) || zH8 (cell p i q.2.2.1.toNat + dS l i q.2.2.1.toNat) (cell b i q.2.2.1.toNat))
theorem vDo {k : Nat} {a : List qM} {b : List (List Int)} {m : List Int} {p : List (List Int)} {l : List zB} (hk : 100 < k) (hb : vY a b m p) (hl : vI a.length l) {r2 r3 : List Int} {m4 : List (List Int)} (hm : zYp a.length l r2 r3 m4) {i : Nat} (hi : i < a.length) (bal cr res n0 : Int) (hres : 0 ≤ res ∧ res ≤ 2305843009213693952) :
  qAx k l i bal cr res r2 r3 m4 n0 a b m p = some (!qI (fun x => !zIz b p l i (decide (n0 < vS res (zP (gR i) l))) (l.getD x pd)) l.length 0) := by
 have h6 := hb.n6
 have hl64 := hl.2
 have hR := zIh hl i
 obtain ⟨x, h1, h2⟩ := zFb (L := fun c x => zQi k c l l.length x i bal cr res r2 r3 m4 n0 a b m p) (N := l.length) (fun x => zIz b p l i (decide (n0 < vS res (zP (gR i) l))) (l.getD x pd)) (fun c => by
   show zL5 k _ l l.length l.length i bal cr res r2 r3 m4 n0 a b m p = _
   unfold zL5
   simp only [zY, vMn (Nat.lt_irrefl _), vMt]) (fun c x hx => by
   show zL5 k _ l l.length x i bal cr res r2 r3 m4 n0 a b m p = _
   have hmay : yM a.length (l.getD x pd) := hl.1 _ (wH hx)
   unfold zL5
   simp only [qH, qO hx (show l.length < 9223372036854775808 by omega), zY, vMu, vMm hx, vMs]
   generalize l.getD x (0, (0, (0, (0, (0, (0, 0)))))) = q at hmay ⊢
   obtain ⟨id, f, t, am, cl, st, ti⟩ := q
   obtain ⟨f0, f1, t0, t1, ne, a1, a2, c1, c3⟩ := hmay
   dsimp only at f0 f1 t0 t1 ne a1 a2 c1 c3 ⊢
   obtain ⟨t, rfl⟩ : ∃ y : Nat, t = y := ⟨t.toNat, by omega⟩
   have htn : t < a.length := by omega
   unfold qN4 zIz
   dsimp only
   cases hf : decide (f = (i : Int)) with
   | false => simp
   | true =>
    have e1 : (r3.getD i 0) = zP (gR i) l := hm.spent i hi
    have e2 : (m4.getD i []).getD t 0 = dS l i t := hm.sent i hi t htn
    have hnet := hb.nums.net i hi t htn
    have hd := zMx hl i t
    have e3 : zA ((p.getD i []).getD t 0 + dS l i t) = cell p i t + dS l i t := zU (by show _ ≤ cell p i t + dS l i t; omega) (by show cell p i t + dS l i t < _; omega)
    simp only [vMw, vMt, qH, hm.l3, hm.l4, hm.r4 i hi, hb.pl, hb.pr i hi, hb.bl, hb.br i hi, vMm hi, vMm htn, vMs, vMu, e1, e2, e3, vBw k bal cr res (zP (gR i) l) (by omega) (by omega) hR.1, vMr, yFt, Bool.true_and]
    show _ = bif (decide (cl = 3) && decide (n0 < vS res (zP (gR i) l))) || zH8 (cell p i t + dS l i t) (cell b i t) then _ else _
    cases decide (cl = 3) <;> cases decide (n0 < vS res (zP (gR i) l)) <;> rfl) (n := k) (by omega)
 unfold qAx qEk
 rw [h1, ← h2]
 cases x <;> rfl
theorem qO5 {α : Type} {g : α → Int} : ∀ {l : List α}, (∀ p ∈ l, 0 ≤ g p) → (0 < zP g l ↔ ∃ p ∈ l, 0 < g p)
 | [], _ => by simp [zP]
 | q :: l, h => by
  have ih := qO5 (g := g) (l := l) fun p hp => h p (List.mem_cons_of_mem _ hp)
  have h0 := zFy (g := g) (l := l) fun p hp => h p (List.mem_cons_of_mem _ hp)
  have hq := h q (List.mem_cons_self ..)
  unfold zP
  constructor
  ·intro hs
   by_cases c : 0 < g q
   ·exact ⟨q, List.mem_cons_self .., c⟩
   ·obtain ⟨p, hp, hg⟩ := ih.1 (by omega)
    exact ⟨p, List.mem_cons_of_mem _ hp, hg⟩
  ·rintro ⟨p, hp, hg⟩
   rcases List.mem_cons.1 hp with rfl | hp
   ·omega
   ·have := ih.2 ⟨p, hp, hg⟩; omega
theorem zVk {N : Nat} {p : Nat → Bool} : qI p N 0 = false ↔ ∃ j, j < N ∧ p j = false := by
 constructor
 ·intro h
  apply Classical.byContradiction
  intro hn
  have : qI p N 0 = true := jU.2 fun j hj => by
   cases hp : p j with
   | true => rfl
   | false => exact absurd ⟨j, hj, hp⟩ hn
  rw [this] at h; cases h
 ·rintro ⟨j, hj, hp⟩
  cases h : qI p N 0 with
  | false => rfl
  | true => rw [jU.1 h j hj] at hp; cases hp
theorem vI7 {a : List qM} {b : List (List Int)} {p : List (List Int)} {l : List zB} (hl : vI a.length l) {i : Nat} (hi : i < a.length) (short : Bool) :
  (!qI (fun x => !zIz b p l i short (l.getD x pd)) l.length 0) = (!qI (zD7 b p l i) a.length 0 || (decide (zP (gN i) l > 0) && short)) := by
 have hN := qO5 (g := gN i) (l := l) fun p hp => (zYe (hl.1 p hp) i).1
 have hS := fun j => qO5 (g := gS i j) (l := l) fun p hp => (zVv (hl.1 p hp) i j).1
 rw [Bool.eq_iff_iff]
 simp only [Bool.not_eq_true', Bool.or_eq_true, vMv, vMq]
 rw [zVk, zVk]
 constructor
 ·rintro ⟨x, hx, hb⟩
  have hmay := hl.1 _ (wH (d := pd) hx)
  have hmem := wH (d := pd) hx
  generalize l.getD x pd = q at hb hmay hmem
  simp only [zIz, Bool.not_eq_false', vMv, Bool.or_eq_true, vMq] at hb
  obtain ⟨hf, hb⟩ := hb
  rcases hb with ⟨hc, hs⟩ | ho
  ·refine .inr ⟨hN.2 ⟨q, hmem, ?_⟩, hs⟩
   unfold gN
   rw [if_pos ⟨hf, hc⟩]
   have := hmay.a1; omega
  ·have h1 := hmay.t0; have h2 := hmay.t1
   refine .inl ⟨q.2.2.1.toNat, by omega, ?_⟩
   unfold zD7
   have hpos : zP (gS i q.2.2.1.toNat) l > 0 := (hS _).2 ⟨q, hmem, by
    unfold gS
    rw [if_pos ⟨hf, by omega⟩]
    have := hmay.a1; omega⟩
   rw [vMm hpos]
   unfold zH8 at ho
   rw [Bool.true_and, ho]
   rfl
 ·rintro (⟨j, hj, hb⟩ | ⟨hp, hs⟩)
  ·simp only [zD7, Bool.not_eq_false', vMv, vMq] at hb
   obtain ⟨hpos, ho⟩ := hb
   obtain ⟨q, hq, hg⟩ := (hS j).1 hpos
   obtain ⟨x, hx, rfl⟩ := List.getElem_of_mem hq
   refine ⟨x, hx, ?_⟩
   have e : l.getD x pd = l[x] := by simp [List.getD, hx]
   rw [e]
   unfold gS at hg
   by_cases c : l[x].2.1 = (i : Int) ∧ l[x].2.2.1 = (j : Int)
   ·unfold zIz zH8
    rw [vMm c.1, c.2, vMu]
    simp [ho]
   ·rw [if_neg c] at hg; omega
  ·obtain ⟨q, hq, hg⟩ := hN.1 hp
   obtain ⟨x, hx, rfl⟩ := List.getElem_of_mem hq
   refine ⟨x, hx, ?_⟩
   have e : l.getD x pd = l[x] := by simp [List.getD, hx]
   rw [e]
   unfold gN at hg
   by_cases c : l[x].2.1 = (i : Int) ∧ l[x].2.2.2.2.1 = 3
   ·unfold zIz
    rw [vMm c.1, vMm c.2, hs]
    simp
   ·rw [if_neg c] at hg; omega
theorem vGg {k : Nat} {a : List qM} {b : List (List Int)} {m : List Int} {p : List (List Int)} {l : List zB} (hk : 100 < k) (hb : vY a b m p) (hl : vI a.length l) {r2 r3 : List Int} {m4 : List (List Int)} (hm : zYp a.length l r2 r3 m4) {i : Nat} (hi : i < a.length) (hs : decide (zP (gN i) l + zP (gR i) l = 0) = false) :
  zT5 k r2 r3 m4 a b m p i l = some (wV a b m p l i) := by
 have h6 := hb.n6
 have hl64 := hl.2
 have hB := qAw hl i
 have hx := hb.acct i hi
 simp only [jH, vMv, vMq] at hx
 have hbal : -4611686018427387904 < (a.getD i ad).1 ∧ (a.getD i ad).1 < 4611686018427387904 ∧ 0 ≤ (a.getD i ad).2.1 ∧ (a.getD i ad).2.1 ≤ 2305843009213693952 ∧ 0 ≤ (a.getD i ad).2.2 ∧ (a.getD i ad).2.2 ≤ 2305843009213693952 := ⟨hx.1, hx.2.1, hx.2.2.1, hx.2.2.2.1, hx.2.2.2.2.1, hx.2.2.2.2.2⟩
 have hnet := zGt (zXd hb hi) a.length
 have hnl : (a.length : Int) * 72057594037927936 ≤ 6 * 72057594037927936 := by omega
 have e1 : r2.getD i 0 = zP (gB i) l := hm.more i hi
 unfold zT5
 simp only [qH, vMm hi, vMs, vMu, hm.l2, hm.l4, e1, hm.r4 i hi]
 rw [yU5 (by omega) (by omega) hi hb.pl (hb.pr i hi) (zXd hb hi)]
 show (bif decide (zA (zA ((a.getD i ad).1 + (a.getD i ad).2.1) + zP (gB i) l) < 0) then _ else _) = _
 rw [zU (x := (a.getD i ad).1 + (a.getD i ad).2.1) (by omega) (by omega), zU (x := (a.getD i ad).1 + (a.getD i ad).2.1 + zP (gB i) l) (by omega) (by omega)]
 unfold wV
 rw [hs]
 cases hn : decide ((a.getD i ad).1 + (a.getD i ad).2.1 + zP (gB i) l < 0) with
 | true => simp
 | false =>
  obtain ⟨s, q1, q2⟩ := vO (L := fun c j (s : Int) => zIm k c l s (m4.getD i []) a.length j r2 r3 m4 a b m p i (a.getD i ad).1 (a.getD i ad).2.1 (a.getD i ad).2.2 ((a.getD i ad).1 + (a.getD i ad).2.1 + zP (gB i) l)) (N := a.length) (fun s => (l, s, r2, r3, m4, a, b, m, p, (i : Int), (a.getD i ad).1, (a.getD i ad).2.1, (a.getD i ad).2.2, (a.getD i ad).1 + (a.getD i ad).2.1 + zP (gB i) l)) (fun j s => s = zW (cell p i) a.length + zW (dS l i) j) (fun c s hs => by
    show zKd k _ l s (m4.getD i []) a.length a.length r2 r3 m4 a b m p i (a.getD i ad).1 (a.getD i ad).2.1 (a.getD i ad).2.2 ((a.getD i ad).1 + (a.getD i ad).2.1 + zP (gB i) l) = _
    unfold zKd
    simp only [zY, vMn (Nat.lt_irrefl _), vMt]) (fun c j s hj hs => by
    refine ⟨zW (cell p i) a.length + zW (dS l i) (j + 1), ?_, rfl⟩
    show zKd k _ l s (m4.getD i []) a.length j r2 r3 m4 a b m p i (a.getD i ad).1 (a.getD i ad).2.1 (a.getD i ad).2.2 ((a.getD i ad).1 + (a.getD i ad).2.1 + zP (gB i) l) = _
    have e2 : (m4.getD i []).getD j 0 = dS l i j := hm.sent i hi j hj
    have hs1 := zGt (fun j => zMx hl i j) j
    have hs2 := zMx hl i j
    have hj1 : (j : Int) * 70368744177664 ≤ 6 * 70368744177664 := by omega
    unfold zKd
    simp only [qH, qO hj (show a.length < 9223372036854775808 by omega), zY, vMu, hm.r4 i hi, vMm hj, vMs, e2]
    rw [hs, zU (x := zW (cell p i) a.length + zW (dS l i) j + dS l i j) (by omega) (by omega), Int.add_assoc]
    rfl) (n := k) (s := zW (cell p i) a.length) (by omega) (by show _ = _ + 0; omega)
  have q1' : zIm k k l (zW (cell p i) a.length) (m4.getD i []) a.length 0 r2 r3 m4 a b m p i (a.getD i ad).1 (a.getD i ad).2.1 (a.getD i ad).2.2 ((a.getD i ad).1 + (a.getD i ad).2.1 + zP (gB i) l) = _ := q1
  simp only [vMt, vMr]
  rw [show zIm k k l (zW (cell p i) a.length) (m4.getD i []) a.length 0 r2 r3 m4 a b m p i (a.getD i (0, (0, 0))).1 (a.getD i (0, (0, 0))).2.1 (a.getD i (0, (0, 0))).2.2 ((a.getD i ad).1 + (a.getD i ad).2.1 + zP (gB i) l) = _ from q1']
  simp only [vMr, qH, hb.ml, vMm hi, vMs, vMu, yFt]
  rw [vDo hk hb hl hm hi _ _ _ _ ⟨hbal.2.2.2.2.1, hbal.2.2.2.2.2⟩, vI7 hl hi, q2, qZ5 hl.1 i hi]
  have en : zW (cell p i) a.length + -zP (gB i) l = zW (cell p i) a.length - zP (gB i) l := by omega
  rw [en]
  unfold zH8
  simp only [vMr, vMx, Bool.true_and, Bool.false_or]
  cases qI (zD7 b p l i) a.length 0 <;> cases decide (zP (gN i) l > 0) <;> cases decide ((a.getD i ad).1 + (a.getD i ad).2.1 + zP (gB i) l < vS (a.getD i ad).2.2 (zP (gR i) l)) <;> cases decide (m.getD i 0 = -1) <;> cases decide (zW (cell p i) a.length - zP (gB i) l > m.getD i 0) <;> rfl
theorem yV7 (f : Nat → Bool) (i : Nat) : ((List.range (i + 1)).filter f).map (fun (x : Nat) => (x : Int)) = (((List.range i).filter f).map fun (x : Nat) => (x : Int)) ++ (bif f i then [(i : Int)] else []) := by
 rw [List.range_succ, List.filter_append, List.map_append]
 congr 1
 cases h : f i <;> simp [h]
theorem qP0 {k : Nat} {a : List qM} {b : List (List Int)} {m : List Int} {p : List (List Int)} {l : List zB} (hk : 100 < k) (hb : vY a b m p) (hl : vI a.length l) : zIa k a b m p l = some (zLx a b m p l) := by
 have h6 := hb.n6
 have hl64 := hl.2
 obtain ⟨r2, r3, m4, g1, hm⟩ := vBx hk h6 hl
 obtain ⟨r, h1, h2⟩ := vO (L := fun c i (r : List Int) => zN4 k c l a.length i a b m p r2 r3 m4 r) (N := a.length) (fun r => r) (fun i r => r = ((List.range i).filter fun i => wV a b m p l i).map fun (x : Nat) => (x : Int)) (fun c r hr => by
   show zJ9 k _ l a.length a.length a b m p r2 r3 m4 r = _
   unfold zJ9
   simp only [zY, vMn (Nat.lt_irrefl _), vMt]) (fun c i r hi hr => by
   have hle : r.length ≤ i := by
    rw [hr, List.length_map]
    have := List.length_filter_le (fun i => wV a b m p l i) (List.range i)
    rw [List.length_range] at this
    exact this
   have hroom : qR (r.length + 1) 8 = true := vR (by omega) (by omega)
   refine ⟨_, ?_, rfl⟩
   show zJ9 k _ l a.length i a b m p r2 r3 m4 r = _
   unfold zJ9
   simp only [qO hi (show a.length < 9223372036854775808 by omega), zY, vMm hi, vMs, yRw (show l.length < k by omega) (by omega), vMr, hroom]
   rw [yNr hl.1, yV7, ← hr]
   cases hz : decide (zP (gN i) l + zP (gR i) l = 0) with
   | true =>
    have : wV a b m p l i = false := by unfold wV; rw [hz]; rfl
    rw [this]
    simp
   | false =>
    rw [vGg hk hb hl hm hi hz]
    simp only [vMr, vMx, vMs]
    cases wV a b m p l i <;> simp) (n := k) (s := []) (by omega) rfl
 unfold zIa
 rw [g1]
 simp only [vMr]
 have h1' : zN4 k k l a.length 0 a b m p r2 r3 m4 [] = some r := h1
 rw [h1', h2]
 rfl
theorem yP3 {a : List qM} {b : List (List Int)} {m : List Int} {p : List (List Int)} {l : List zB} : decide (((zLx a b m p l).length : Int) = 0) = qI (fun i => !wV a b m p l i) a.length 0 := by
 unfold zLx
 rw [List.length_map]
 cases h : qI (fun i => !wV a b m p l i) a.length 0 with
 | true =>
  rw [jU] at h
  apply vMm
  have : (List.range a.length).filter (fun i => wV a b m p l i) = [] := by
   rw [List.filter_eq_nil_iff]
   intro i hi
   have := h i (by simpa using hi)
   simpa using this
  rw [this]; rfl
 | false =>
  apply vMn
  intro h0
  obtain ⟨j, hj, hs⟩ := zVk.1 h
  have hm : j ∈ (List.range a.length).filter (fun i => wV a b m p l i) := by
   rw [List.mem_filter]
   exact ⟨by simpa using hj, by simpa using hs⟩
  have := List.length_pos_of_mem hm
  omega
theorem yXl {k : Nat} {l : List zB} (hk : l.length < k) (hl : l.length < 9223372036854775808) (a : List qM) (b : List (List Int)) (m : List Int) (p : List (List Int)) : zZt k l a b m p = some (!zB5 a.length l) := by
 obtain ⟨x, h1, h2⟩ := zFb (L := fun c i => zSt k c l l.length i a b m p) (N := l.length) (fun i => !zB2 a.length (l.getD i pd)) (fun c => by
  show zJ2 k _ l l.length l.length a b m p = _
  unfold zJ2
  simp only [zY, vMn (Nat.lt_irrefl _), vMt]) (fun c i hi => by
  show zJ2 k _ l l.length i a b m p = _
  unfold zJ2 qBg
  simp only [qH, qO hi hl, zY, vMu, vMm hi, vMs, qAz, vMr]) hk
 unfold zZt qN1
 rw [h1]
 simp only [Bool.not_not] at h2
 unfold zB5
 rw [← h2]
 cases x <;> rfl
theorem vF1 {k : Nat} {a : List qM} {b : List (List Int)} {m : List Int} {p : List (List Int)} {l : List zB} (hk : 100 < k) (hb : vY a b m p) (hl : l.length ≤ 80) : zIj k a b m p l = some (zPs a b m p l) := by
 unfold zIj zPs
 have e : decide ((l.length : Int) ≤ 64) = decide (l.length ≤ 64) := by
  by_cases h : l.length ≤ 64
  ·rw [vMm h, vMm (by omega)]
  ·rw [vMn h, vMn (by omega)]
 rw [e, yXl (by omega) (by omega)]
 cases h64 : decide (l.length ≤ 64) with
 | false => simp
 | true =>
  cases hm : zB5 a.length l with
  | false => rfl
  | true =>
   have hr : vI a.length l := ⟨zL6.1 hm, vMo h64⟩
   simp only [vMs, vMr, vMw, vMx, qP0 hk hb hr, yP3, Bool.and_self, Bool.true_and]
def qT (l : List zB) : Prop := List.Pairwise (fun p q => p.1 ≠ q.1) l
theorem qT.filter {l : List zB} (h : qT l) (f : zB → Bool) : qT (l.filter f) := List.Pairwise.filter f h
theorem zQ5 {α : Type} (f : α → Bool) (l : List α) (i : Nat) (d : α) (h : i < l.length) : (l.take (i + 1)).filter f = (l.take i).filter f ++ (bif f (l.getD i d) then [l.getD i d] else []) := by
 rw [← zAo l i d h, List.filter_append]
 congr 1
theorem zRj {α X : Type} (d : α) {l : List α} {L : Nat → Int → List α → Option X} (f : α → Bool) (e : List α → X) (hend : ∀ n s, L (n + 1) (l.length : Int) s = some (e s))
  (hstep : ∀ n i s, i < l.length → s.length ≤ i → L (n + 1) (i : Int) s = L n ((i + 1 : Nat) : Int) (bif f (l.getD i d) then s ++ [l.getD i d] else s)) {n : Nat} (hn : l.length < n) :
  L n 0 [] = some (e (l.filter f)) := by
 obtain ⟨s', h1, h2⟩ := vO (L := L) (N := l.length) e (fun i s => s = (l.take i).filter f) (fun n s _ => hend n s) (fun n i s hi hs => by
  refine ⟨_, hstep n i s hi ?_, ?_⟩
  ·subst hs
   have := List.length_filter_le f (l.take i)
   rw [List.length_take] at this
   omega
  ·subst hs
   rw [zQ5 f l i d hi]
   cases f (l.getD i d) <;> simp) (s := []) hn (by simp)
 rw [h1, h2, List.take_length]
def qZ (l : List zB) : Prop := l.length ≤ 1000
theorem zCq {n : Nat} (h : n ≤ 1000) : qR (n + 1) 56 = true := vR (by omega) (by omega)
def zA6 (t : Int) (p : zB) : Bool := bif decide (t ≥ p.2.2.2.2.2.1) then decide (t ≤ p.2.2.2.2.2.2) else false
theorem qL3 {k : Nat} {l : List zB} (hk : l.length < k) (hl : qZ l) (t : Int) : zL7 k l t = some (l.filter (zA6 t)) := by
 unfold zL7 qKa
 have := zRj pd (L := fun n i s => zQs k n l l.length i t s) (zA6 t) id (fun n s => by
  show zJs k _ l l.length l.length t s = _
  unfold zJs
  simp only [zY, vMn (Nat.lt_irrefl _), vMt]; rfl) (fun n i s hi hs => by
  show zJs k _ l l.length i t s = _
  unfold zJs qJz qHz
  unfold qZ at hl
  simp only [qH, qO hi (show l.length < 9223372036854775808 by omega), zY, vMu, vMm hi, vMs, zCq (show s.length ≤ 1000 by omega)]
  unfold zA6
  cases h1 : decide (t ≥ (l.getD i pd).2.2.2.2.2.1) with
  | false => rfl
  | true =>
   cases h2 : decide (t ≤ (l.getD i pd).2.2.2.2.2.2) <;> rfl) hk
 rw [this]
 rfl
theorem yZy {k : Nat} {l : List zB} (hk : l.length < k) (hl : qZ l) (t : Int) : zS9 k l t = some (l.filter (zA6 t)) := by
 unfold zS9
 have := zRj pd (L := fun n i s => zQ2 k n l t i s) (zA6 t) id (fun n s => by
  show zJr k _ l t l.length s = _
  unfold zJr
  simp only [zY, vMn (Nat.lt_irrefl _), vMt]; rfl) (fun n i s hi hs => by
  show zJr k _ l t i s = _
  unfold zJr qDm
  unfold qZ at hl
  simp only [qH, qO hi (show l.length < 9223372036854775808 by omega), zY, vMu, vMm hi, vMs, zCq (show s.length ≤ 1000 by omega)]
  unfold zA6
  cases h1 : decide (t ≥ (l.getD i pd).2.2.2.2.2.1) with
  | false => rfl
  | true =>
   cases h2 : decide (t ≤ (l.getD i pd).2.2.2.2.2.2) <;> rfl) hk
 rw [this]
 rfl
def vM (f : Int) (p : zB) : Bool := decide (p.2.1 = f)
theorem yZk {k : Nat} {l : List zB} (hk : l.length < k) (hl : qZ l) (f : Int) : zTv k l f = some (l.filter (vM f)) := by
 unfold zTv
 have := zRj pd (L := fun n i s => zRo k n l f i s) (vM f) id (fun n s => by
  show zLr k _ l f l.length s = _
  unfold zLr
  simp only [zY, vMn (Nat.lt_irrefl _), vMt]; rfl) (fun n i s hi hs => by
  show zLr k _ l f i s = _
  unfold zLr
  unfold qZ at hl
  simp only [qH, qO hi (show l.length < 9223372036854775808 by omega), zY, vMu, vMm hi, vMs, zCq (show s.length ≤ 1000 by omega)]
  unfold vM
  cases h1 : decide ((l.getD i pd).2.1 = f) <;> rfl) hk
 rw [this]
 rfl
def zUu (r : List zB) (p : zB) : Bool := qI (fun x => decide (((r.filter (vM p.2.1)).getD x pd).2.2.2.2.1 = 3)) (r.filter (vM p.2.1)).length 0
def zUg (r : List zB) (p : zB) : Bool := decide ((r.filter (vM p.2.1)).getD 0 pd = p)
def zEn (r : List zB) (p : zB) : Bool := zUg r p || zUu r p
def yY (l : List zB) (t : Int) : List zB := (l.filter (zA6 t)).filter (zEn (l.filter (zA6 t)))
theorem eq7 (p q : zB) : ((decide (p.1 = q.1)) && ((decide (p.2.1 = q.2.1)) && ((decide (p.2.2.1 = q.2.2.1)) && ((decide (p.2.2.2.1 = q.2.2.2.1)) && ((decide (p.2.2.2.2.1 = q.2.2.2.2.1)) && ((decide (p.2.2.2.2.2.1 = q.2.2.2.2.2.1)) && (decide (p.2.2.2.2.2.2 = q.2.2.2.2.2.2)))))))) = decide (p = q) := by
 obtain ⟨a, b, c, d, e, f, g⟩ := p
 obtain ⟨a', b', c', d', e', f', g'⟩ := q
 simp only [Prod.mk.injEq]
 rw [Bool.eq_iff_iff]
 simp only [vMv, vMq]
theorem yQl {k n : Nat} (s7 : Int) (r0 r1 r2 : List zB) (hk : r2.length < n) (hl : qZ r2) :
  zOd k n s7 true 0 r0 r1 r2 = some (s7, qI (fun x => decide ((r2.getD x pd).2.2.2.2.1 = 3)) r2.length 0, r0, r1, r2) := by
 obtain ⟨s', h1, h2⟩ := vO (L := fun n i s => zOd k n s7 s i r0 r1 r2) (N := r2.length) (fun s => (s7, s, r0, r1, r2)) (fun i s => s = qI (fun x => decide ((r2.getD x pd).2.2.2.2.1 = 3)) i 0) (fun n s _ => by
  show zLz k _ s7 s r2.length r0 r1 r2 = _
  unfold zLz
  simp only [zY, vMn (Nat.lt_irrefl _), vMt]) (fun n i s hi hs => by
  refine ⟨_, ?_, rfl⟩
  show zLz k _ s7 s i r0 r1 r2 = _
  unfold zLz
  unfold qZ at hl
  simp only [qH, qO hi (show r2.length < 9223372036854775808 by omega), zY, vMu, vMm hi, vMs]
  have e : qI (fun x => decide ((r2.getD x pd).2.2.2.2.1 = 3)) (i + 1) 0 = (s && decide ((r2.getD i pd).2.2.2.2.1 = 3)) := by
   rw [Bool.eq_iff_iff, hs]
   simp only [jU, vMv, vMq]
   constructor
   ·intro h
    exact ⟨fun j hj => h j (by omega), h i (by omega)⟩
   ·rintro ⟨h1, h2⟩ j hj
    by_cases c : j = i
    ·subst c; exact h2
    ·exact h1 j (by omega)
  rw [e]
  cases s <;> rfl) (s := true) hk rfl
 exact h1.trans (by rw [h2])
theorem yYn {k : Nat} {l : List zB} (hk : l.length < k) (hl : qZ l) (t : Int) : zXm k l t = some (yY l t) := by
 unfold zXm
 rw [yZy hk hl]
 simp only [vMr]
 unfold yY
 have hl' : (l.filter (zA6 t)).length ≤ l.length := List.length_filter_le _ _
 generalize l.filter (zA6 t) = r at hl'
 unfold qZ at hl
 have := zRj pd (L := fun n i s => zR9 k n i r s) (l := r) (zEn r) id (fun n s => by
  show zJt k _ r.length r s = _
  unfold zJt
  simp only [zY, vMn (Nat.lt_irrefl _), vMt]; rfl) (fun n i s hi hs => by
  show zJt k _ i r s = _
  unfold zJt
  have hr1 : (r.filter (vM (r.getD i pd).2.1)).length ≤ r.length := List.length_filter_le _ _
  have hr0 : 0 < (r.filter (vM (r.getD i pd).2.1)).length := by
   apply List.length_pos_of_mem (a := r.getD i pd)
   rw [List.mem_filter]
   exact ⟨wH hi, by simp [vM]⟩
  have hOf := yZk (k := k) (l := r) (by omega) (show r.length ≤ 1000 by omega) (r.getD i pd).2.1
  have b0 : ∀ n : Nat, zE 0 n = decide (0 < n) := fun n => qH 0 n
  have e7 := eq7 ((r.filter (vM (r.getD i pd).2.1)).getD 0 pd) (r.getD i pd)
  simp only [pd] at hOf hr1 hr0 e7
  simp only [qH, qO hi (show r.length < 9223372036854775808 by omega), zY, vMu, vMm hi, vMs, zCq (show s.length ≤ 1000 by omega)]
  rw [hOf]
  simp only [vMr]
  rw [yQl ((i : Nat) : Int) r s _ (by omega) (show _ ≤ 1000 by omega)]
  simp only [vMr, b0, vMm hr0, vMm hi, vMs, qH, vMu, qO hi (show r.length < 9223372036854775808 by omega), zCq (show s.length ≤ 1000 by omega)]
  rw [e7]
  unfold zEn zUg zUu
  simp only [pd]
  generalize decide ((r.filter (vM (r.getD i (0, (0, (0, (0, (0, (0, 0))))))).2.1)).getD 0 (0, (0, (0, (0, (0, (0, 0)))))) = r.getD i (0, (0, (0, (0, (0, (0, 0))))))) = x
  generalize qI _ _ 0 = y
  cases x <;> cases y <;> rfl) (show r.length < k by omega)
 have e : ((0 : Nat) : Int) = 0 := rfl
 rw [this]
 rfl
def zH2 (f : Int) (q : zB) : Bool := decide (q.2.1 = f) && !decide (q.2.2.2.2.1 = 3)
theorem yUg {k : Nat} {l : List zB} (hk : l.length < k) (hl : l.length < 9223372036854775808) (i f t a c s e : Int) :
  zV5 k l i f t a c s e = some (!qI (fun x => !zH2 f (l.getD x pd)) l.length 0) := by
 obtain ⟨x, h1, h2⟩ := zFb (L := fun n i' => zLg k n l l.length i' i f t a c s e) (N := l.length) (fun x => zH2 f (l.getD x pd)) (fun n => by
  show zLv k _ l l.length l.length i f t a c s e = _
  unfold zLv
  simp only [zY, vMn (Nat.lt_irrefl _), vMt]) (fun n j hj => by
  show zLv k _ l l.length j i f t a c s e = _
  unfold zLv qJd
  simp only [qH, qO hj hl, zY, vMu, vMm hj, vMs]
  unfold zH2
  cases h1 : decide ((l.getD j pd).2.1 = f) with
  | false => rfl
  | true => cases h2 : decide ((l.getD j pd).2.2.2.2.1 = 3) <;> rfl) hk
 unfold zV5 qGa
 have h1' : zLg k k l l.length 0 i f t a c s e = some x := h1
 rw [h1']
 rw [← h2]
 cases x <;> rfl
theorem vDl (r : List zB) (p : zB) : zUu r p = true ↔ ∀ q ∈ r, q.2.1 = p.2.1 → q.2.2.2.2.1 = 3 := by
 unfold zUu
 rw [jU]
 constructor
 ·intro h q hq he
  have hm : q ∈ r.filter (vM p.2.1) := List.mem_filter.2 ⟨hq, by simp [vM, he]⟩
  obtain ⟨i, hi, e⟩ := List.getElem_of_mem hm
  have := h i hi
  rw [List.getD_eq_getElem?_getD, List.getElem?_eq_getElem hi, e] at this
  simpa using this
 ·intro h j hj
  have hm := wH (d := pd) hj
  rw [List.mem_filter] at hm
  have := h _ hm.1 (by simpa [vM] using hm.2)
  simpa using this
theorem vDi (r : List zB) (f : Int) : qI (fun x => !zH2 f (r.getD x pd)) r.length 0 = true ↔ ∀ q ∈ r, q.2.1 = f → q.2.2.2.2.1 = 3 := by
 rw [jU]
 constructor
 ·intro h q hq he
  obtain ⟨i, hi, e⟩ := List.getElem_of_mem hq
  have := h i hi
  rw [List.getD_eq_getElem?_getD, List.getElem?_eq_getElem hi, e] at this
  simpa [zH2, he] using this
 ·intro h j hj
  have := h _ (wH (d := pd) hj)
  simp only [zH2, Bool.not_eq_true', Bool.and_eq_false_iff, Bool.not_eq_false', vMq, decide_eq_false_iff_not]
  by_cases c : (r.getD j pd).2.1 = f
  ·exact .inr (this c)
  ·exact .inl c
theorem qT.split {r : List zB} (h : qT r) {i : Nat} (hi : i < r.length) : ∀ q ∈ r.take i, q.1 ≠ (r.getD i pd).1 := by
 intro q hq
 have e : r.take (i + 1) = r.take i ++ [r.getD i pd] := (zAo r i pd hi).symm
 have hs : qT (r.take (i + 1)) := List.Pairwise.sublist (List.take_sublist _ _) h
 rw [e] at hs
 exact (List.pairwise_append.1 hs).2.2 q hq _ (List.mem_singleton.2 rfl)
theorem zOy {α : Type} (r : List α) (i : Nat) (d : α) (hi : i < r.length) : r = r.take i ++ r.getD i d :: r.drop (i + 1) := by
 conv => lhs; rw [← List.take_append_drop i r]
 congr 1
 rw [List.drop_eq_getElem_cons hi]
 congr 1
 rw [List.getD_eq_getElem?_getD, List.getElem?_eq_getElem hi]; rfl
theorem vBz {r : List zB} (h : qT r) {i : Nat} (hi : i < r.length) : zUg r (r.getD i pd) = !(r.take i).any (vM (r.getD i pd).2.1) := by
 unfold zUg
 have e : ∀ f, vM f (r.getD i pd) = true → r.filter (vM f) = (r.take i).filter (vM f) ++ r.getD i pd :: (r.drop (i + 1)).filter (vM f) := by
  intro f hf
  have := congrArg (List.filter (vM f)) (zOy r i pd hi)
  rwa [List.filter_append, List.filter_cons_of_pos hf] at this
 have e := e (r.getD i pd).2.1 (by simp [vM])
 rw [e]
 cases ha : (r.take i).any (vM (r.getD i pd).2.1) with
 | false =>
  have : (r.take i).filter (vM (r.getD i pd).2.1) = [] := by
   rw [List.filter_eq_nil_iff]
   intro q hq hf
   rw [List.any_eq_false] at ha
   exact ha q hq hf
  rw [this]
  simp
 | true =>
  cases hf : (r.take i).filter (vM (r.getD i pd).2.1) with
  | nil =>
   rw [List.filter_eq_nil_iff] at hf
   rw [List.any_eq_true] at ha
   obtain ⟨q, h1, h2⟩ := ha
   exact absurd h2 (hf q h1)
  | cons q l =>
   have hq : q ∈ r.take i := (List.mem_filter.1 (hf ▸ List.mem_cons_self .. : q ∈ (r.take i).filter _)).1
   have := h.split hi q hq
   have e2 : (q :: l ++ r.getD i pd :: (r.drop (i + 1)).filter (vM (r.getD i pd).2.1)).getD 0 pd = q := rfl
   rw [e2]
   simp only [vMw, decide_eq_false_iff_not]
   intro c
   exact this (by rw [c])
theorem yTc {r : List zB} (h : qT r) {i : Nat} (hi : i < r.length) :
  zEn r (r.getD i pd) = (!(r.take i).any (vM (r.getD i pd).2.1) || (decide ((r.getD i pd).2.2.2.2.1 = 3) && qI (fun x => !zH2 (r.getD i pd).2.1 (r.getD x pd)) r.length 0)) := by
 unfold zEn
 rw [vBz h hi]
 congr 1
 rw [Bool.eq_iff_iff, vDl, vMv, vDi, vMq]
 exact ⟨fun g => ⟨g _ (wH hi) rfl, g⟩, fun g => g.2⟩
theorem lookup_cons (f g : Int) (l : List (Int × Bool)) : (List.lookup f ((g, true) :: l)).getD false = (decide (f = g) || (List.lookup f l).getD false) := by
 rw [List.lookup_cons]
 by_cases c : f = g
 ·subst c; simp
 ·have : (f == g) = false := by simpa using c
  rw [this]
  simp [c]
theorem yGu {k : Nat} {l : List zB} (hk : l.length < k) (hl : qZ l) (hd : qT l) (t : Int) : zPf k l t = some (yY l t) := by
 unfold zPf
 rw [qL3 hk hl]
 simp only [vMr]
 unfold yY
 have hl' : (l.filter (zA6 t)).length ≤ l.length := List.length_filter_le _ _
 have hd' := hd.filter (zA6 t)
 generalize l.filter (zA6 t) = r at hl' hd'
 unfold qZ at hl
 unfold qJk
 obtain ⟨s', h1, h2, h3⟩ := vO (L := fun n i (s : List (Int × Bool) × List zB) => zMo k n r r.length i s.1 r s.2) (N := r.length) (fun s => (s.1, r, s.2)) (fun i s => (∀ f, (List.lookup f s.1).getD false = (r.take i).any (vM f)) ∧ s.2 = (r.take i).filter (zEn r)) (fun n s _ => by
  show zKq k _ r r.length r.length s.1 r s.2 = _
  unfold zKq
  simp only [zY, vMn (Nat.lt_irrefl _), vMt]) (fun n i s hi hs => by
  refine ⟨((( r.getD i pd).2.1, true) :: s.1, bif zEn r (r.getD i pd) then s.2 ++ [r.getD i pd] else s.2), ?_, ?_, ?_⟩
  ·show zKq k _ r r.length i s.1 r s.2 = _
   unfold zKq qL9
   have hlen : s.2.length ≤ i := by
    rw [hs.2]
    have := List.length_filter_le (zEn r) (r.take i)
    rw [List.length_take] at this
    omega
   have hc := yUg (k := k) (l := r) (by omega) (by omega) (r.getD i pd).1 (r.getD i pd).2.1 (r.getD i pd).2.2.1 (r.getD i pd).2.2.2.1 (r.getD i pd).2.2.2.2.1 (r.getD i pd).2.2.2.2.2.1 (r.getD i pd).2.2.2.2.2.2
   have hlk := hs.1 (r.getD i pd).2.1
   have hp := yTc hd' hi
   simp only [pd] at hc hlk hp ⊢
   simp only [qH, qO hi (show r.length < 9223372036854775808 by omega), zY, vMu, vMm hi, vMs, zCq (show s.2.length ≤ 1000 by omega)]
   rw [hc, hlk, hp]
   generalize (r.take i).any _ = x
   generalize qI _ _ 0 = y
   generalize decide ((r.getD i (0, (0, (0, (0, (0, (0, 0))))))).2.2.2.2.1 = 3) = z
   cases x <;> cases y <;> cases z <;> rfl
  ·intro f
   rw [lookup_cons, hs.1 f, ← zAo r i pd hi, List.any_append, Bool.or_comm]
   congr 1
   simp only [List.any_cons, List.any_nil, Bool.or_false, vM]
   rw [Bool.eq_iff_iff]
   simp only [vMq]
   exact eq_comm
  ·show (bif zEn r (r.getD i pd) then s.2 ++ [r.getD i pd] else s.2) = _
   rw [hs.2, zQ5 _ _ _ pd hi]
   cases zEn r (r.getD i pd) <;> simp) (s := ([], [])) (show r.length < k by omega) ⟨fun f => by simp, by simp⟩
 have h1' : zMo k k r r.length 0 [] r [] = some (s'.1, r, s'.2) := h1
 rw [h1', h3, List.take_length]
 rfl
def zFv (p : Nat → Bool) : Nat → Nat → Option Nat
 | 0, _ => none
 | c + 1, i => bif p i then some i else zFv p c (i + 1)
def qIy : Option Nat → Unit ⊕ Int
 | some x => .inr (x : Int)
 | none => .inl ()
theorem qDj {L : Nat → Int → Option (Unit ⊕ Int)} {N : Nat} (bad : Nat → Bool) (hend : ∀ n, L (n + 1) (N : Int) = some (.inl ()))
  (hstep : ∀ n i, i < N → L (n + 1) (i : Int) = bif bad i then some (.inr (i : Int)) else L n ((i + 1 : Nat) : Int)) :
  ∀ c i n, i + c = N → c < n → L n (i : Int) = some (qIy (zFv bad c i))
 | 0, i, n, h, hn => by
  obtain ⟨n, rfl⟩ : ∃ m, n = m + 1 := ⟨n - 1, by omega⟩
  have : i = N := by omega
  subst this
  exact hend n
 | c + 1, i, n, h, hn => by
  obtain ⟨n, rfl⟩ : ∃ m, n = m + 1 := ⟨n - 1, by omega⟩
  rw [hstep n i (by omega)]
  unfold zFv
  cases hb : bad i with
  | true => rfl
  | false =>
   simp only [vMt]
   exact qDj bad hend hstep c (i + 1) n (by omega) (by omega)
theorem qRi {p : Nat → Bool} : ∀ {c i x : Nat}, zFv p c i = some x → i ≤ x ∧ x < i + c ∧ p x = true ∧ ∀ j, i ≤ j → j < x → p j = false
 | 0, _, _, h => by cases h
 | c + 1, i, x, h => by
  unfold zFv at h
  cases hp : p i with
  | true =>
   rw [hp] at h
   simp only [vMs, Option.some.injEq] at h
   subst h
   exact ⟨Nat.le_refl _, by omega, hp, fun j h1 h2 => absurd h1 (by omega)⟩
  | false =>
   rw [hp] at h
   simp only [vMt] at h
   obtain ⟨h1, h2, h3, h4⟩ := qRi h
   refine ⟨by omega, by omega, h3, fun j j1 j2 => ?_⟩
   by_cases e : j = i
   ·subst e; exact hp
   ·exact h4 j (by omega) j2
theorem yF5 {p : Nat → Bool} : ∀ {c i : Nat}, zFv p c i = none → ∀ j, i ≤ j → j < i + c → p j = false
 | 0, _, _ => fun j h1 h2 => absurd h1 (by omega)
 | c + 1, i, h => by
  unfold zFv at h
  cases hp : p i with
  | true =>
   rw [hp] at h
   cases h
  | false =>
   rw [hp] at h
   simp only [vMt] at h
   intro j j1 j2
   by_cases e : j = i
   ·subst e; exact hp
   ·exact yF5 h j (by omega) (by omega)
def wG (l : List zB) (id : Int) : Option Nat := zFv (fun x => decide ((l.getD x pd).1 = id)) l.length 0
def zDk (l : List zB) (id : Int) : Int := match wG l id with | some x => (x : Int) | none => -1
theorem zCu {l : List zB} {id : Int} {x : Nat} (h : wG l id = some x) : x < l.length ∧ (l.getD x pd).1 = id := by
 obtain ⟨_, h2, h3, _⟩ := qRi h
 exact ⟨by omega, by simpa using h3⟩
theorem vBg {l : List zB} {id : Int} (h : wG l id = none) : ∀ p ∈ l, p.1 ≠ id := by
 intro p hp e
 obtain ⟨i, hi, e'⟩ := List.getElem_of_mem hp
 have := yF5 h i (by omega) (by omega)
 rw [List.getD_eq_getElem?_getD, List.getElem?_eq_getElem hi, e'] at this
 simp [e] at this
theorem zZg {l : List zB} {p : zB} (h : p ∈ l) : ∃ x, wG l p.1 = some x := by
 cases e : wG l p.1 with
 | some x => exact ⟨x, rfl⟩
 | none => exact absurd rfl (vBg e p h)
theorem yW4 {k : Nat} {l : List zB} (hk : l.length < k) (hl : l.length < 9223372036854775808) (id : Int) : zTm k l id = some (zDk l id) := by
 have := qDj (L := fun n i => zNw k n l id i) (N := l.length) (fun x => decide ((l.getD x pd).1 = id)) (fun n => by
  show zMa k _ l id l.length = _
  unfold zMa
  simp only [zY, vMn (Nat.lt_irrefl _), vMt]) (fun n j hj => by
  show zMa k _ l id j = _
  unfold zMa
  simp only [qH, qO hj hl, zY, vMu, vMm hj, vMs, pd]) l.length 0 k (by omega) hk
 have h1 : zNw k k l id 0 = some (qIy (wG l id)) := this
 unfold zTm zDk
 rw [h1]
 cases wG l id <;> rfl
theorem zKs {k : Nat} {l : List zB} (hk : l.length < k) (hl : l.length < 9223372036854775808) (id : Int) : zCw k l id = some (zDk l id) := by
 have := qDj (L := fun n i => zNi k n l l.length i id) (N := l.length) (fun x => decide ((l.getD x pd).1 = id)) (fun n => by
  show zLp k _ l l.length l.length id = _
  unfold zLp
  simp only [zY, vMn (Nat.lt_irrefl _), vMt]) (fun n j hj => by
  show zLp k _ l l.length j id = _
  unfold zLp qIm
  simp only [qH, qO hj hl, zY, vMu, vMm hj, vMs]
  rfl) l.length 0 k (by omega) hk
 have h1 : zNi k k l l.length 0 id = some (qIy (wG l id)) := this
 unfold zCw qNd zDk
 rw [h1]
 cases wG l id <;> rfl
def yU (l : List zB) (x : Nat) : List zB := l.take x ++ l.drop (x + 1)
theorem zDl {l : List zB} {x : Nat} (h : x < l.length) : (yU l x).length = l.length - 1 := by
 unfold yU
 rw [List.length_append, List.length_take, List.length_drop]
 omega
theorem zFg (l : List zB) (x : Nat) : List.Sublist (yU l x) l := by
 unfold yU
 conv => rhs; rw [← List.take_append_drop x l]
 exact List.Sublist.append (List.Sublist.refl _) (List.drop_sublist_drop_left l (by omega))
theorem qT.cut {l : List zB} (h : qT l) (x : Nat) : qT (yU l x) := List.Pairwise.sublist (zFg l x) h
theorem yJ3 (k : Nat) {l : List zB} {x : Nat} (hx : x < l.length) (hl : qZ l) : zQj k l x ((x + 1 : Nat) : Int) = some (yU l x) := by
 unfold zQj
 unfold qZ at hl
 have c1 : (decide ((0 : Int) ≤ (x : Int))) = true := by simp
 have c2 : decide ((x : Int) ≤ ((x + 1 : Nat) : Int)) = true := vMm (by omega)
 have c3 : decide (((x + 1 : Nat) : Int) ≤ (l.length : Int)) = true := vMm (by omega)
 have c4 : decide ((l.length : Int) ≤ (l.length : Int)) = true := by simp
 have c5 : decide ((x : Int) = ((x + 1 : Nat) : Int)) = false := vMn (by omega)
 have c6 : decide ((x : Int) ≤ (l.length : Int)) = true := vMm (by omega)
 have c7 : decide ((0 : Int) ≤ ((x + 1 : Nat) : Int)) = true := vMm (by omega)
 have c8 : Nat.ble (x - 0) (0 + (x + 1)) = true := Nat.ble_eq_true_of_le (by omega)
 simp only [vMu, c1, c2, c3, c4, c5, c6, c7, c8, Bool.and_true, vMs, vMt]
 have e0 : x - 0 + (l.length - (x + 1)) = l.length - 1 := by omega
 have e1 : List.take (x - 0) l ++ yB l (0 + (x + 1)) (l.length - (x + 1)) = yU l x := by
  unfold yB yU
  rw [Nat.sub_zero, Nat.zero_add]
  congr 1
  rw [List.take_of_length_le]
  rw [List.length_drop]
  exact Nat.le_refl _
 have e2 : (yB (yU l x ++ List.drop (l.length - 1) l) 0 (l.length - 1)) = yU l x := by
  unfold yB
  rw [List.drop_zero, List.take_append_of_le_length (by rw [zDl hx]; exact Nat.le_refl _), List.take_of_length_le (by rw [zDl hx]; exact Nat.le_refl _)]
 have e3 : (yU l x ++ List.drop (l.length - 1) l).length = l.length := by
  rw [List.length_append, List.length_drop, zDl hx]; omega
 have c9 : decide ((0 : Int) ≤ ((yU l x).length : Int)) = true := by simp
 have c10 : decide (((yU l x).length : Int) ≤ (l.length : Int)) = true := vMm (by rw [zDl hx]; omega)
 have c11 : decide ((l.length : Int) ≤ ((l.length - 0 : Nat) : Int)) = true := by simp
 have e4 : List.take (0 + (yU l x).length) (yU l x ++ List.drop (l.length - 1) l) = yU l x := by
  rw [Nat.zero_add, List.take_append_of_le_length (Nat.le_refl _), List.take_of_length_le (Nat.le_refl _)]
 simp only [e0, e1, e2, e3, c9, c10, c11, e4, Bool.and_true, vMs, Option.some.injEq]
 rw [List.append_assoc, List.take_append_of_le_length (by rw [zDl hx]; exact Nat.le_refl _), List.take_of_length_le (by rw [zDl hx]; exact Nat.le_refl _)]
def zDw (l : List zB) (id : Int) : List zB × Int × Int × Int × Int × Int × Int × Int × Int := match wG l id with
 | some x => (yU l x, (l.getD x pd).1, (l.getD x pd).2.1, (l.getD x pd).2.2.1, (l.getD x pd).2.2.2.1, (l.getD x pd).2.2.2.2.1, (l.getD x pd).2.2.2.2.2.1, (l.getD x pd).2.2.2.2.2.2, 0)
 | none => (l, 0, 0, 0, 0, 0, 0, 0, 4)
theorem zIn {k : Nat} {l : List zB} (hk : l.length < k) (hl : qZ l) (id : Int) : zDv k l id = some (zDw l id) := by
 unfold qZ at hl
 unfold zDv
 rw [zKs hk (by omega)]
 unfold zDk zDw
 cases hp : wG l id with
 | none => rfl
 | some x =>
  have hx := (zCu hp).1
  have e1 : decide ((x : Int) < 0) = false := vMn (by omega)
  have e2 : zF8 k l = some l := by
   unfold zF8
   rw [vR (by omega) (by omega)]
   rfl
  simp only [vMr, e1, vMt, e2, qO hx (show l.length < 9223372036854775808 by omega), yJ3 k hx hl, qH, vMm hx, vMs, vMu]
def jJ (q p : zB) : Bool := decide (q.2.1 < p.2.1) || (decide (q.2.1 = p.2.1) && decide (q.2.2.2.2.1 ≤ p.2.2.2.2.1))
def ltP (q p : zB) : Bool := decide (q.2.1 < p.2.1) || (decide (q.2.1 = p.2.1) && decide (q.2.2.2.2.1 < p.2.2.2.2.1))
theorem vAa (n : Nat) (x y : Int) : zZ6 (n + 3) [x, y] = some (if x = 0 then y else x) := by
 have key : ∀ n : Nat, zKh (n + 3) (n + 3) 0 [x, y] 2 0 = bif !decide (x = 0) then some (.inr x) else bif !decide (y = 0) then some (.inr y) else some (.inl 0) := fun n => rfl
 unfold zZ6
 show (zKh (n + 3) (n + 3) 0 [x, y] 2 0).bind _ = _
 rw [key]
 by_cases h : x = 0
 ·rw [vMm h, if_pos h]
  by_cases h2 : y = 0
  ·rw [vMm h2, h2]; rfl
  ·rw [vMn h2]; rfl
 ·rw [vMn h, if_neg h]; rfl
theorem vAz (k : Nat) (a b : Int) : zQ4 k a b = some (if a < b then -1 else if a > b then 1 else 0) := by
 unfold zQ4 zTz
 have e : ∀ x : Int, decide (x = x) = true := fun x => vMm rfl
 simp only [e, vMw, vMr, vMt]
 by_cases h : a < b
 ·rw [vMm h, if_pos h]; rfl
 ·rw [vMn h, if_neg h]
  by_cases h2 : a > b
  ·rw [vMm h2, if_pos h2]; rfl
  ·rw [vMn h2, if_neg h2]; rfl
theorem qOi {k : Nat} (hk : 3 ≤ k) (q p : zB) : ∃ x, zMf k q.1 q.2.1 q.2.2.1 q.2.2.2.1 q.2.2.2.2.1 q.2.2.2.2.2.1 q.2.2.2.2.2.2 p.1 p.2.1 p.2.2.1 p.2.2.2.1 p.2.2.2.2.1 p.2.2.2.2.2.1 p.2.2.2.2.2.2 = some x ∧ decide (x ≤ 0) = jJ q p ∧ decide (x < 0) = ltP q p := by
 obtain ⟨n, rfl⟩ : ∃ n, k = n + 3 := ⟨k - 3, by omega⟩
 unfold zMf
 simp only [vAz, vMr, vAa]
 refine ⟨_, rfl, ?_, ?_⟩
 ·unfold jJ
  rcases Int.lt_trichotomy q.2.1 p.2.1 with h | h | h
  ·simp [h]
  ·rcases Int.lt_trichotomy q.2.2.2.2.1 p.2.2.2.2.1 with g | g | g
   ·simp [h, g, Int.le_of_lt g]
   ·simp [h, g]
   ·have g1 : ¬ q.2.2.2.2.1 < p.2.2.2.2.1 := by omega
    have g2 : ¬ q.2.2.2.2.1 ≤ p.2.2.2.2.1 := by omega
    simp [h, g1, g2, g]
  ·have h1 : ¬ q.2.1 < p.2.1 := by omega
   have h2 : ¬ q.2.1 = p.2.1 := by omega
   simp [h1, h2, h]
 ·unfold ltP
  rcases Int.lt_trichotomy q.2.1 p.2.1 with h | h | h
  ·simp [h]
  ·rcases Int.lt_trichotomy q.2.2.2.2.1 p.2.2.2.2.1 with g | g | g
   ·simp [h, g]
   ·simp [h, g]
   ·have g1 : ¬ q.2.2.2.2.1 < p.2.2.2.2.1 := by omega
    simp [h, g1, g]
  ·have h1 : ¬ q.2.1 < p.2.1 := by omega
   have h2 : ¬ q.2.1 = p.2.1 := by omega
   simp [h1, h2, h]
def zPu (ok : Nat → Bool) : Nat → Nat → Nat
 | 0, i => i
 | c + 1, i => bif ok i then zPu ok c (i + 1) else i
theorem qCh {X : Type} {L : Nat → Int → Option X} {N : Nat} (ok : Nat → Bool) (e : Nat → X) (hend : ∀ n, L (n + 1) (N : Int) = some (e N))
  (hstep : ∀ n i, i < N → L (n + 1) (i : Int) = bif ok i then L n ((i + 1 : Nat) : Int) else some (e i)) : ∀ c i n, i + c = N → c < n → L n (i : Int) = some (e (zPu ok c i))
 | 0, i, n, h, hn => by
  obtain ⟨n, rfl⟩ : ∃ m, n = m + 1 := ⟨n - 1, by omega⟩
  have : i = N := by omega
  subst this
  exact hend n
 | c + 1, i, n, h, hn => by
  obtain ⟨n, rfl⟩ : ∃ m, n = m + 1 := ⟨n - 1, by omega⟩
  rw [hstep n i (by omega)]
  unfold zPu
  cases ok i with
  | false => rfl
  | true => exact qCh ok e hend hstep c (i + 1) n (by omega) (by omega)
theorem qGu {α : Type} (f : α → Bool) (l : List α) (d : α) : ∀ c i, i + c = l.length → zPu (fun x => f (l.getD x d)) c i = i + ((l.drop i).takeWhile f).length
 | 0, i, h => by
  rw [List.drop_eq_nil_of_le (by omega)]
  rfl
 | c + 1, i, h => by
  rw [List.drop_eq_getElem_cons (show i < l.length by omega)]
  unfold zPu
  have e : l.getD i d = l[i] := by rw [List.getD_eq_getElem?_getD, List.getElem?_eq_getElem (by omega)]; rfl
  rw [e]
  cases hf : f l[i] with
  | false => rw [List.takeWhile_cons_of_neg (by simp [hf])]; rfl
  | true =>
   rw [List.takeWhile_cons_of_pos hf, vMs, qGu f l d c (i + 1) (by omega), List.length_cons]
   omega
theorem zY0 {α : Type} (f : α → Bool) (l : List α) : l.take (l.takeWhile f).length = l.takeWhile f ∧ l.drop (l.takeWhile f).length = l.dropWhile f := by
 have e := List.takeWhile_append_dropWhile (p := f) (l := l)
 have h1 : (l.takeWhile f ++ l.dropWhile f).take (l.takeWhile f).length = l.takeWhile f := List.take_left
 have h2 : (l.takeWhile f ++ l.dropWhile f).drop (l.takeWhile f).length = l.dropWhile f := List.drop_left
 rw [e] at h1 h2
 exact ⟨h1, h2⟩
theorem yJz {α : Type} (f : α → Bool) (l : List α) : (l.takeWhile f).length ≤ l.length := (List.takeWhile_sublist f).length_le
theorem qHg {α : Type} {b : Nat} (f : α → Bool) (l : List α) (p : α) (hl : l.length ≤ 1000) (hb : b ≤ 1000) : ins b l (((l.takeWhile f).length : Nat) : Int) [p] = some (l.takeWhile f ++ (p :: l.dropWhile f)) := by
 unfold ins
 have h := yJz f l
 have hm : (l.length + 1) * b ≤ 1001 * 1000 := Nat.mul_le_mul (by omega) hb
 rw [vMm (show (0 : Int) ≤ ((l.takeWhile f).length : Int) by omega), vMm (show ((l.takeWhile f).length : Int) ≤ (l.length : Int) by omega), vR (show (l.length + 1) * b ≤ 70368744177664 by omega) (by omega), vMu, (zY0 f l).1, (zY0 f l).2]
 rfl
def zE5 (l : List zB) (p : zB) : List zB := l.takeWhile (fun q => jJ q p) ++ (p :: l.dropWhile (fun q => jJ q p))
def zV6 (l : List zB) (p : zB) : List zB := l.takeWhile (fun q => ltP q p) ++ (p :: l.dropWhile (fun q => ltP q p))
theorem qZj {k : Nat} {l : List zB} (hl : qZ l) : zF8 k l = some l := by
 unfold qZ at hl
 unfold zF8
 rw [vR (by omega) (by omega)]
 rfl
theorem yXu {k : Nat} (hk : 3 ≤ k) (l : List zB) (hl : qZ l) (hkl : l.length < k) (p : zB) : zM5 k k l 0 p = some (l, (((l.takeWhile (fun q => jJ q p)).length : Nat) : Int), p) := by
 unfold qZ at hl
 have := qCh (L := fun n i => zM5 k n l i p) (N := l.length) (fun x => jJ (l.getD x pd) p) (fun i => (l, (i : Int), p)) (fun n => by
  show zOc k _ l l.length p = _
  unfold zOc
  simp only [zY, vMn (Nat.lt_irrefl _), vMt]) (fun n i hi => by
  show zOc k _ l i p = _
  unfold zOc
  obtain ⟨x, h1, h2, _⟩ := qOi hk (l.getD i pd) p
  simp only [pd] at h1
  simp only [qH, zY, vMu, vMm hi, vMs, h1, vMr, h2, qO hi (show l.length < 9223372036854775808 by omega)]
  cases jJ (l.getD i pd) p <;> rfl) l.length 0 k (by omega) hkl
 have e : ((0 : Nat) : Int) = 0 := rfl
 rw [e] at this
 show zM5 k k l 0 p = _
 rw [this, qGu (fun q => jJ q p) l pd l.length 0 (by omega), List.drop_zero, Nat.zero_add]
theorem qIc {k : Nat} {l : List zB} (hk : 3 ≤ k) (hkl : l.length < k) (hl : qZ l) (p : zB) :
  zF2 k l p = some (bif (wG l p.1).isSome then (l, 6) else bif decide (40 ≤ l.length) then (l, 3) else (zE5 l p, 0)) := by
 have hl' := hl
 unfold qZ at hl
 unfold zF2
 rw [zKs hkl (by omega)]
 unfold zDk
 cases hp : wG l p.1 with
 | some x =>
  have e1 : decide ((x : Int) ≥ 0) = true := vMm (by omega)
  simp only [vMr, e1, vMs, Option.isSome_some]
 | none =>
  have e1 : decide ((-1 : Int) ≥ 0) = false := rfl
  simp only [vMr, e1, vMt, Option.isSome_none]
  by_cases h : 40 ≤ l.length
  ·rw [vMm h, vMm (show (l.length : Int) ≥ 40 by omega)]; rfl
  ·rw [vMn h, vMn (show ¬ (l.length : Int) ≥ 40 by omega)]
   simp only [vMt, yXu hk l hl' hkl, vMr, qZj hl', zZ7]
   rw [qHg _ l p hl (by decide)]
   rfl
theorem qIr {l : List zB} {x : Nat} (h : qZ l) : qZ (yU l x) := by
 unfold qZ at *
 have := (zFg l x).length_le
 omega
def zSi (l : List zB) (id : Int) : List zB := match wG l id with | some x => yU l x | none => l
theorem yCa {l : List zB} {id : Int} (hd : qT l) : wG (zSi l id) id = none := by
 cases h : wG (zSi l id) id with
 | none => rfl
 | some y =>
  exfalso
  obtain ⟨h1, h2⟩ := zCu h
  unfold zSi at h h1 h2
  cases hp : wG l id with
  | none =>
   rw [hp] at h
   rw [hp] at h; cases h
  | some x =>
   rw [hp] at h1 h2
   obtain ⟨h3, h4⟩ := zCu hp
   have hm := wH (d := pd) h1
   have e := zOy l x pd h3
   unfold qT at hd
   rw [e] at hd
   have hd2 := List.pairwise_append.1 hd
   have hd3 := List.pairwise_cons.1 hd2.2.1
   simp only at h1 h2 hm
   unfold yU at hm
   rcases List.mem_append.1 hm with hm | hm
   ·exact hd2.2.2 _ hm _ (List.mem_cons_self ..) (h2.trans h4.symm)
   ·exact hd3.1 _ hm (h4.trans h2.symm)
theorem vIn {k : Nat} {l : List zB} (hk : 3 ≤ k) (hkl : l.length < k) (hl : qZ l) (hd : qT l) (h40 : l.length ≤ 40) {id : Int} {x : Nat} (hx : wG l id = some x) (c : Int) :
  zJ7 k l id c = some (zE5 (yU l x) ((l.getD x pd).1, (l.getD x pd).2.1, (l.getD x pd).2.2.1, (l.getD x pd).2.2.2.1, c, (l.getD x pd).2.2.2.2.2.1, (l.getD x pd).2.2.2.2.2.2), 0) := by
 have hx1 := zCu hx
 have hw := yCa (id := id) hd
 unfold zSi at hw
 rw [hx] at hw
 have hlen := zDl hx1.1
 unfold zJ7
 rw [zIn hkl hl]
 unfold zDw
 rw [hx]
 simp only [vMr, decide_true, vMw, vMt]
 rw [qIc hk (by omega) (qIr hl)]
 simp only [hx1.2, hw, Option.isSome_none, vMt, vMn (show ¬ 40 ≤ (yU l x).length by omega), vMr]
theorem vJ0 {k : Nat} {l : List zB} (hk : 3 ≤ k) (hkl : l.length < k) (hl : qZ l) (hd : qT l) (h40 : l.length ≤ 40) {id : Int} {x : Nat} (hx : wG l id = some x) :
  zOf k l id = some (zE5 (yU l x) (l.getD x pd), 0) := by
 have hx1 := zCu hx
 have hw := yCa (id := id) hd
 unfold zSi at hw
 rw [hx] at hw
 have hlen := zDl hx1.1
 unfold zOf
 rw [zIn hkl hl]
 unfold zDw
 rw [hx]
 simp only [vMr, decide_true, vMw, vMt]
 rw [qIc hk (by omega) (qIr hl)]
 simp only [hx1.2, hw, Option.isSome_none, vMt, vMn (show ¬ 40 ≤ (yU l x).length by omega), vMr]
 simp only [zQp]
 rw [← hx1.2]
theorem yS2 {k : Nat} (hk : 3 ≤ k) (l : List zB) (hl : qZ l) (hkl : l.length < k) (p : zB) : zJq k k 0 l p = some ((((l.takeWhile (fun q => ltP q p)).length : Nat) : Int), l, p) := by
 unfold qZ at hl
 have := qCh (L := fun n i => zJq k n i l p) (N := l.length) (fun x => ltP (l.getD x pd) p) (fun i => ((i : Int), l, p)) (fun n => by
  show zMp k _ l.length l p = _
  unfold zMp
  simp only [zY, vMn (Nat.lt_irrefl _), vMt]) (fun n i hi => by
  show zMp k _ i l p = _
  unfold zMp
  obtain ⟨x, h1, _, h2⟩ := qOi hk (l.getD i pd) p
  simp only [pd] at h1
  simp only [qH, zY, vMu, vMm hi, vMs, h1, vMr, h2, qO hi (show l.length < 9223372036854775808 by omega)]
  cases ltP (l.getD i pd) p <;> rfl) l.length 0 k (by omega) hkl
 have e : ((0 : Nat) : Int) = 0 := rfl
 rw [e] at this
 show zJq k k 0 l p = _
 rw [this, qGu (fun q => ltP q p) l pd l.length 0 (by omega), List.drop_zero, Nat.zero_add]
theorem yQz {k : Nat} {l : List zB} (hk : 3 ≤ k) (hkl : l.length < k) (hl : qZ l) {id : Int} {x : Nat} (hx : wG l id = some x) :
  zKl k l id = some (zV6 (yU l x) (l.getD x pd), 0) := by
 have hl' := hl
 unfold qZ at hl
 have hx1 := zCu hx
 have hlen := zDl hx1.1
 have e1 : decide ((x : Int) < 0) = false := vMn (by omega)
 unfold zKl qHx
 rw [zKs hkl (by omega)]
 unfold zDk
 rw [hx]
 simp only [vMr, e1, vMt, qZj hl', qO hx1.1 (show l.length < 9223372036854775808 by omega), yJ3 k hx1.1 hl', qH, vMm hx1.1, vMs, vMu]
 have e0 : decide ((0 : Int) = 0) = true := rfl
 simp only [zB3, zQp, e0, vMw, vMt]
 rw [yS2 hk (yU l x) (qIr hl') (by omega)]
 simp only [vMr, zZ7]
 rw [qHg _ (yU l x) _ (by omega) (by decide)]
 rfl
def wM (l : List Int) (id : Int) : Nat := (l.takeWhile (fun x => decide (x < id))).length
theorem vF7 {x : Int} (h0 : 0 ≤ x) (h1 : x < 9223372036854775808) : zA (shr .u64 (IntKind.wrap .u64 (zA x)) 1) = x / 2 := by
 have e1 : zA x = x := zU (by omega) h1
 have e2 : IntKind.wrap .u64 x = x := by
  unfold IntKind.wrap
  simp only [IntKind.bits, IntKind.signed, Bool.false_and, Bool.false_eq_true, if_false]
  omega
 rw [e1, e2]
 have e3 : shr .u64 x 1 = x / 2 := by
  unfold shr
  have : (2 : Int) ^ (min (1 : Int).toNat (IntKind.bits .u64)) = 2 := by decide
  rw [this, Int.fdiv_eq_ediv_of_nonneg _ (by omega)]
 rw [e3]
 exact zU (by omega) (by omega)
theorem vG3 (k : Nat) (a b : Int) : qAe k a b = some (decide (a < b)) := by
 unfold qAe zXe
 simp only [decide_true, vMw, vMr, vMt]
theorem qL5 {k : Nat} {l : List Int} {id : Int} (hl : l.length ≤ 1000) {c : Nat} (hc : c ≤ l.length) (h1 : ∀ x, x < c → l.getD x 0 < id) (h2 : ∀ x, c ≤ x → x < l.length → id ≤ l.getD x 0) (s6 : Int) :
  ∀ (n i j : Nat), i ≤ c → c ≤ j → j ≤ l.length → j - i < n → zQz k n l id s6 i j = some (l, id, s6, (c : Int))
 | 0, _, _, _, _, _, h => absurd h (Nat.not_lt_zero _)
 | n + 1, i, j, hi, hj, hjl, hn => by
  show zT6 k (zQz k n) l id s6 i j = _
  unfold zT6
  rw [zY]
  by_cases hij : i < j
  ·have hh : zA (shr .u64 (IntKind.wrap .u64 (zA ((i : Int) + (j : Int)))) 1) = (((i + j) / 2 : Nat) : Int) := by
    rw [vF7 (by omega) (by omega)]; omega
   have hm : (i + j) / 2 < l.length := by omega
   rw [vMm hij, vMs, hh, qH, vMm hm, vMs, vG3]
   simp only [vMr, vMu]
   by_cases hlt : (i + j) / 2 < c
   ·rw [vMm (h1 _ hlt), vMs, qO hm (by omega)]
    exact qL5 hl hc h1 h2 s6 n _ j (by omega) hj hjl (by omega)
   ·have := h2 _ (Nat.not_lt.1 hlt) hm
    rw [vMn (show ¬ l.getD ((i + j) / 2) 0 < id by omega), vMt]
    exact qL5 hl hc h1 h2 s6 n i _ hi (by omega) (by omega) (by omega)
  ·rw [vMn hij, vMt]
   have : i = c := by omega
   rw [this]
theorem vFv {k : Nat} {l : List Int} {id : Int} (hkl : l.length < k) (hl : l.length ≤ 1000) {c : Nat} (hc : c ≤ l.length) (h1 : ∀ x, x < c → l.getD x 0 < id) (h2 : ∀ x, c ≤ x → x < l.length → id ≤ l.getD x 0) :
  zKp k l id = some ((c : Int), decide (c < l.length) && decide (l.getD c 0 = id)) := by
 unfold zKp
 have := qL5 (k := k) hl hc h1 h2 (l.length : Int) k 0 l.length (by omega) hc (Nat.le_refl _) (by omega)
 rw [show ((0 : Nat) : Int) = 0 from rfl] at this
 rw [this]
 simp only [vMr, zY, qH, vMu]
 by_cases h : c < l.length
 ·simp only [vMm h, vMs, Bool.true_and]
  by_cases h3 : l.getD c 0 = id
  ·rw [vMm h3]; rfl
  ·rw [vMn h3]
   unfold zZl
   simp only [decide_true, vMt, vMr, vMw]
 ·simp only [vMn h, vMt, Bool.false_and]
def Asc (l : List Int) : Prop := List.Pairwise (fun a b => a < b) l
theorem yN9 {l : List Int} {id : Int} : ∀ x, x < wM l id → l.getD x 0 < id := by
 intro x hx
 unfold wM at hx
 have h := zY0 (fun x => decide (x < id)) l
 have e : l.getD x 0 = (l.takeWhile (fun x => decide (x < id))).getD x 0 := by
  rw [← h.1, List.getD_eq_getElem?_getD, List.getD_eq_getElem?_getD, List.getElem?_take, if_pos hx]
 rw [e]
 have hm := wH (d := (0 : Int)) hx
 have := List.all_eq_true.1 (List.all_takeWhile (p := fun x => decide (x < id)) (l := l)) _ hm
 simpa using this
theorem yJh {l : List Int} (ha : Asc l) {id : Int} : ∀ x, wM l id ≤ x → x < l.length → id ≤ l.getD x 0 := by
 intro x hx hl
 have hi : wM l id < l.length := by omega
 have h := zY0 (fun x => decide (x < id)) l
 have h0 : ¬ l.getD (wM l id) 0 < id := by
  have hd : l.drop (wM l id) = l[wM l id] :: l.drop (wM l id + 1) := List.drop_eq_getElem_cons hi
  have h2 := h.2
  unfold wM at hd
  rw [h2] at hd
  have hne : l.dropWhile (fun x => decide (x < id)) ≠ [] := by rw [hd]; simp
  have := List.head_dropWhile_not (fun x => decide (x < id)) hne
  have e : (l.dropWhile (fun x => decide (x < id))).head hne = l[wM l id] := by
   unfold wM
   simp only [hd, List.head_cons]
  rw [e] at this
  rw [List.getD_eq_getElem?_getD, List.getElem?_eq_getElem hi]
  simpa using this
 by_cases e : x = wM l id
 ·rw [e]; omega
 ·have := List.pairwise_iff_getElem.1 ha (wM l id) x hi hl (by omega)
  rw [List.getD_eq_getElem?_getD, List.getElem?_eq_getElem hl]
  rw [List.getD_eq_getElem?_getD, List.getElem?_eq_getElem hi] at h0
  simp only [Option.getD_some] at h0 ⊢
  omega
theorem yW0 {l : List Int} (ha : Asc l) (id : Int) : (decide (wM l id < l.length) && decide (l.getD (wM l id) 0 = id)) = decide (id ∈ l) := by
 by_cases hm : id ∈ l
 ·obtain ⟨x, hx, e⟩ := List.getElem_of_mem hm
  have e' : l.getD x 0 = id := by rw [List.getD_eq_getElem?_getD, List.getElem?_eq_getElem hx]; exact e
  have h1 : ¬ x < wM l id := fun h => by have := yN9 x h; omega
  have h3 : wM l id < l.length := by omega
  have h4 : ¬ wM l id < x := fun h => by
   have g1 := yJh ha (id := id) (wM l id) (Nat.le_refl _) h3
   have g2 := List.pairwise_iff_getElem.1 ha (wM l id) x h3 hx h
   rw [List.getD_eq_getElem?_getD, List.getElem?_eq_getElem h3] at g1
   simp only [Option.getD_some] at g1
   omega
  have h5 : wM l id = x := by omega
  rw [vMm hm, vMm h3, h5, vMm e']; rfl
 ·rw [vMn hm]
  by_cases h : wM l id < l.length
  ·rw [vMn (show ¬ l.getD (wM l id) 0 = id from fun e => hm (e ▸ wH h)), Bool.and_false]
  ·rw [vMn h]; rfl
def zIv (l : List Int) (id : Int) : List Int := l.takeWhile (fun x => decide (x < id)) ++ (id :: l.dropWhile (fun x => decide (x < id)))
theorem qVn {k : Nat} {l : List Int} (hkl : l.length < k) (hl : l.length ≤ 1000) (ha : Asc l) (id : Int) : zKp k l id = some ((wM l id : Int), decide (id ∈ l)) := by
 rw [vFv hkl hl (yJz _ l) yN9 (yJh ha)]
 show some ((wM l id : Int), decide (wM l id < l.length) && decide (l.getD (wM l id) 0 = id)) = _
 rw [yW0 ha]
theorem vJt {k : Nat} {l : List Int} (hkl : l.length < k) (hl : l.length ≤ 1000) (ha : Asc l) (id : Int) : zZs k l id = some (decide (id ∈ l)) := by
 unfold zZs
 rw [qVn hkl hl ha]
 rfl
theorem yWe {k : Nat} {l : List Int} (hkl : l.length < k) (hl : l.length ≤ 1000) (ha : Asc l) (id : Int) :
  zKv k l id = some (bif decide (id ∈ l) then (l, 6) else bif decide (200 ≤ l.length) then (l, 3) else (zIv l id, 0)) := by
 unfold zKv
 rw [qVn hkl hl ha]
 simp only [vMr]
 by_cases hm : id ∈ l
 ·rw [vMm hm]; rfl
 ·rw [vMn hm]
  simp only [vMt]
  by_cases h : 200 ≤ l.length
  ·rw [vMm h, vMm (show (l.length : Int) ≥ 200 by omega)]; rfl
  ·rw [vMn h, vMn (show ¬ (l.length : Int) ≥ 200 by omega)]
   have e2 : zDy k l = some l := by
    unfold zDy
    rw [vR (by omega) (by omega)]
    rfl
   simp only [vMt, e2, vMr, qSd]
   unfold wM
   rw [qHg _ l id hl (by decide)]
   rfl
theorem qK3 {x : Int} (h : 0 ≤ x) : qV .u64 x 4294967295 = x % 4294967296 := by
 obtain ⟨n, rfl⟩ := Int.eq_ofNat_of_zero_le h
 unfold qV zE7
 rw [zC5]
 have e1 : (BitVec.ofInt IntKind.u64.bits (n : Int) &&& BitVec.ofInt IntKind.u64.bits 4294967295).toNat = n % 4294967296 := by
  rw [BitVec.toNat_and, BitVec.toNat_ofInt, BitVec.toNat_ofInt]
  have e2 : ((4294967295 : Int) % ((2 ^ IntKind.u64.bits : Nat) : Int)).toNat = 2 ^ 32 - 1 := by decide
  rw [e2, Nat.and_two_pow_sub_one_eq_mod]
  have e3 : ((n : Int) % ((2 ^ IntKind.u64.bits : Nat) : Int)).toNat = n % 18446744073709551616 := by
   show ((n : Int) % ((18446744073709551616 : Nat) : Int)).toNat = _
   omega
  rw [e3]
  show n % 18446744073709551616 % 4294967296 = _
  omega
 rw [e1]
 omega
theorem yRe (x : Int) : shr .u64 x 32 = x / 4294967296 := by
 show x.fdiv (2 ^ (min 32 64)) = _
 rw [Int.fdiv_eq_ediv_of_nonneg _ (by decide)]
 rfl
theorem yXe {a1 a0 b1 b0 : Int} : (a1 * 4294967296 + a0) * (b1 * 4294967296 + b0) = a1 * b1 * 18446744073709551616 + (a1 * b0 + a0 * b1) * 4294967296 + a0 * b0 := by
 rw [Int.add_mul, Int.mul_add, Int.mul_add]
 have e1 : a1 * 4294967296 * (b1 * 4294967296) = a1 * b1 * 18446744073709551616 := by
  rw [Int.mul_assoc, ← Int.mul_assoc 4294967296 b1, Int.mul_comm 4294967296 b1, Int.mul_assoc b1, ← Int.mul_assoc]; rfl
 have e2 : a1 * 4294967296 * b0 = a1 * b0 * 4294967296 := by rw [Int.mul_assoc, Int.mul_comm 4294967296 b0, ← Int.mul_assoc]
 have e3 : a0 * (b1 * 4294967296) = a0 * b1 * 4294967296 := by rw [← Int.mul_assoc]
 rw [e1, e2, e3]
 omega
theorem vD {a b A B : Int} (h0 : 0 ≤ a) (h1 : a ≤ A) (g0 : 0 ≤ b) (g1 : b ≤ B) : 0 ≤ a * b ∧ a * b ≤ A * B :=
 ⟨Int.mul_nonneg h0 g0, Int.mul_le_mul h1 g1 g0 (by omega)⟩
theorem qS5 (k : Nat) {x y : Int} (hx : 0 ≤ x ∧ x < 18446744073709551616) (hy : 0 ≤ y ∧ y < 18446744073709551616) : zRb k x y = some (x * y / 18446744073709551616, x * y % 18446744073709551616) := by
 unfold zRb
 simp only [yRe, qK3 hx.1, qK3 hy.1, zC5]
 obtain ⟨a1, h1⟩ : ∃ a, x / 4294967296 = a := ⟨_, rfl⟩
 obtain ⟨a0, h0⟩ : ∃ a, x % 4294967296 = a := ⟨_, rfl⟩
 obtain ⟨b1, g1⟩ : ∃ a, y / 4294967296 = a := ⟨_, rfl⟩
 obtain ⟨b0, g0⟩ : ∃ a, y % 4294967296 = a := ⟨_, rfl⟩
 have hxe : x = a1 * 4294967296 + a0 := by omega
 have hye : y = b1 * 4294967296 + b0 := by omega
 rw [h1, h0, g1, g0]
 have ha1 : 0 ≤ a1 ∧ a1 ≤ 4294967295 := by omega
 have ha0 : 0 ≤ a0 ∧ a0 ≤ 4294967295 := by omega
 have hb1 : 0 ≤ b1 ∧ b1 ≤ 4294967295 := by omega
 have hb0 : 0 ≤ b0 ∧ b0 ≤ 4294967295 := by omega
 have p11 := vD ha1.1 ha1.2 hb1.1 hb1.2
 have p10 := vD ha1.1 ha1.2 hb0.1 hb0.2
 have p01 := vD ha0.1 ha0.2 hb1.1 hb1.2
 have p00 := vD ha0.1 ha0.2 hb0.1 hb0.2
 have hxy : x * y = a1 * b1 * 18446744073709551616 + (a1 * b0 + a0 * b1) * 4294967296 + a0 * b0 := by rw [hxe, hye, yXe]
 rw [hxy]
 generalize a1 * b1 = u at *
 generalize a1 * b0 = v at *
 generalize a0 * b1 = s at *
 generalize a0 * b0 = t at *
 have c1 : (t % 18446744073709551616) = t := by omega
 have c2 : (v % 18446744073709551616 + t / 4294967296) % 18446744073709551616 = v + t / 4294967296 := by omega
 rw [c1, c2]
 have hband : qV .u64 (v + t / 4294967296) 4294967295 = (v + t / 4294967296) % 4294967296 := qK3 (by omega)
 rw [hband]
 refine congrArg some (Prod.ext ?_ ?_)
 ·show _ % _ = _ / _
  omega
 ·rfl
theorem vAx (k : Nat) {x : Int} (hx : 0 ≤ x ∧ x < 18446744073709551616) : zY3 k 0 x 10000 = some (x / 10000, x % 10000) := by
 unfold zY3
 have e1 : decide ((10000 : Int) = 0) = false := rfl
 have e2 : decide ((10000 : Int) ≤ 0) = false := rfl
 simp only [e1, e2, decide_true, vMt, vMs, vMx, zC5]
 rw [Int.tdiv_eq_ediv_of_nonneg hx.1, Int.tmod_eq_emod_of_nonneg hx.1]
 have : x / 10000 % 18446744073709551616 = x / 10000 := by omega
 rw [this]
def zEz (price many cut : Int) : Int := price * many * (10000 - cut) / 10000
theorem yEy {p m c : Int} (hp : 0 ≤ p ∧ p ≤ 1048576) (hm : 0 ≤ m ∧ m ≤ 1099511627776) (hc : 0 ≤ c ∧ c ≤ 10000) : 0 ≤ zEz p m c ∧ zEz p m c ≤ 1152921504606846976 := by
 have h1 := vD hp.1 hp.2 hm.1 hm.2
 have h2 := vD h1.1 h1.2 (show 0 ≤ 10000 - c by omega) (show 10000 - c ≤ 10000 by omega)
 unfold zEz
 generalize p * m * (10000 - c) = z at *
 omega
theorem yWd (k : Nat) {p m c : Int} (hp : 0 ≤ p ∧ p ≤ 1048576) (hm : 0 ≤ m ∧ m ≤ 1099511627776) (hc : 0 ≤ c ∧ c ≤ 10000) : zYo k p m c = some (zEz p m c, true) := by
 unfold zYo qLv
 have w1 : zA (10000 - c) = 10000 - c := zU (by omega) (by omega)
 have e1 : decide (p < 0) = false := vMn (by omega)
 have e2 : decide (m < 0) = false := vMn (by omega)
 have e3 : decide (c ≥ 0) = true := vMm (by omega)
 have e4 : decide (c ≤ 10000) = true := vMm (by omega)
 have u1 : p % 18446744073709551616 = p := by omega
 have u2 : m % 18446744073709551616 = m := by omega
 have u3 : (10000 - c) % 18446744073709551616 = 10000 - c := by omega
 have h1 := vD hp.1 hp.2 hm.1 hm.2
 have hP : p * m / 18446744073709551616 = 0 := by omega
 have hP2 : p * m % 18446744073709551616 = p * m := by omega
 have t0 : Int.tmod 0 10000 = 0 := by simp
 have t1 : Int.tdiv 0 10000 = 0 := by simp
 rw [e1, e2, e3, e4, vMt, vMt, vMs, vMr, vMw, vMt, zC5 p, zC5 m, u1, u2, qS5 k (show 0 ≤ p ∧ p < 18446744073709551616 by omega) (show 0 ≤ m ∧ m < 18446744073709551616 by omega), vMr, hP, hP2]
 dsimp only
 rw [t0, t1, vAx k (show 0 ≤ p * m ∧ p * m < 18446744073709551616 by omega), vMr]
 dsimp only
 rw [w1, zC5 (10000 - c), u3]
 unfold zEz
 obtain ⟨l, hl⟩ : ∃ l, 10000 - c = l := ⟨_, rfl⟩
 rw [hl]
 obtain ⟨P, hPe⟩ : ∃ P, p * m = P := ⟨_, rfl⟩
 rw [hPe] at h1 ⊢
 have hl' : 0 ≤ l ∧ l ≤ 10000 := by omega
 rw [qS5 k (show 0 ≤ P / 10000 ∧ P / 10000 < 18446744073709551616 by omega) (show 0 ≤ l ∧ l < 18446744073709551616 by omega)]
 have hq := vD (show 0 ≤ P / 10000 by omega) (show P / 10000 ≤ 115292150460684 by omega) hl'.1 hl'.2
 have hr := vD (show 0 ≤ P % 10000 by omega) (show P % 10000 ≤ 9999 by omega) hl'.1 hl'.2
 have hsplit : P * l = P / 10000 * l * 10000 + P % 10000 * l := by
  have : P = P / 10000 * 10000 + P % 10000 := by omega
  have e : P / 10000 * l * 10000 = P / 10000 * 10000 * l := by rw [Int.mul_assoc, Int.mul_comm l, ← Int.mul_assoc]
  rw [e, ← Int.add_mul, ← this]
 rw [hsplit]
 generalize P / 10000 * l = a at *
 generalize P % 10000 * l = b at *
 have v1 : a / 18446744073709551616 = 0 := by omega
 have v2 : a % 18446744073709551616 = a := by omega
 have v3 : b % 18446744073709551616 = b := by omega
 have v4 : Int.tdiv b 10000 = b / 10000 := Int.tdiv_eq_ediv_of_nonneg hr.1
 have v5 : b / 10000 % 18446744073709551616 = b / 10000 := by omega
 have ha : zIf k a (b / 10000) 0 = some (a + b / 10000, 0) := by
  have n1 : (Int.ofNat ((a.toNat + (b / 10000).toNat + 0) % 18446744073709551616)) = a + b / 10000 := by rw [Int.ofNat_eq_natCast]; omega
  have n2 : (Int.ofNat ((a.toNat + (b / 10000).toNat + 0) / 18446744073709551616)) = 0 := by rw [Int.ofNat_eq_natCast]; omega
  unfold zIf
  rw [vMm rfl, vMs, n1, n2]
 rw [vMr]
 dsimp only
 rw [v1, v2, zC5 b, v3, v4, zC5 (b / 10000), v5, ha, vMr]
 dsimp only
 have z1 : IntKind.wrap .u64 0 = 0 := by rw [zC5]; omega
 have z2 : IntKind.wrap .u64 (0 + 0) = 0 := by rw [zC5]; omega
 have z3 : decide ((0 : Int) > 0) = false := vMn (by omega)
 have z4 : decide (a + b / 10000 > 9223372036854775807) = false := vMn (by omega)
 have z5 : zA (a + b / 10000) = a + b / 10000 := zU (by omega) (by omega)
 rw [z1, z2, z3, z4, z5, vMt, vMt, vMt]
 have : (a * 10000 + b) / 10000 = a + b / 10000 := by omega
 rw [this]
abbrev zAj := Int × Int
abbrev zFe : zAj := (0, 0)
def zBi (sa : List zAj) (pr h : List Int) (i : Nat) : Int := zEz (pr.getD i 0) (h.getD i 0) (sa.getD i zFe).2
def zBo (sa : List zAj) (pr h : List Int) : Int := zW (zBi sa pr h) sa.length
structure zA4 (sa : List zAj) (pr h : List Int) : Prop where
 n3 : sa.length ≤ 3
 pl : pr.length = sa.length
 hl : h.length = sa.length
 cut : ∀ i, i < sa.length → 0 ≤ (sa.getD i zFe).2 ∧ (sa.getD i zFe).2 ≤ 10000
 price : ∀ i, i < sa.length → 0 ≤ pr.getD i 0 ∧ pr.getD i 0 ≤ 1048576
 hold : ∀ i, i < sa.length → 0 ≤ h.getD i 0 ∧ h.getD i 0 ≤ 1099511627776
theorem zPl {sa : List zAj} {pr h : List Int} (L : zA4 sa pr h) {i : Nat} (hi : i < sa.length) : 0 ≤ zBi sa pr h i ∧ zBi sa pr h i ≤ 1152921504606846976 := yEy (L.price i hi) (L.hold i hi) (L.cut i hi)
theorem qB6 (g : Nat → Int) : ∀ n, wR ((List.range n).map g) = zW g n
 | 0 => rfl
 | n + 1 => by
  rw [List.range_succ, List.map_append]
  unfold wR
  rw [zAm]
  have := qB6 g n
  unfold wR at this
  rw [this]
  show zW g n + (g n + 0) = zW g n + g n
  omega
theorem qAu {g : Nat → Int} {A : Int} : ∀ {n : Nat}, (∀ j, j < n → 0 ≤ g j ∧ g j ≤ A) → 0 ≤ zW g n ∧ zW g n ≤ n * A
 | 0, _ => by simp [zW]
 | n + 1, h => by
  have h1 := qAu (n := n) (fun j hj => h j (by omega))
  have h2 := h n (by omega)
  have h3 : ((n + 1 : Nat) : Int) * A = n * A + A := by rw [Int.natCast_add, Int.add_mul]; simp
  rw [h3]
  show 0 ≤ zW g n + g n ∧ zW g n + g n ≤ _
  omega
theorem vHl {k : Nat} {sa : List zAj} {pr h : List Int} (L : zA4 sa pr h) (hk : 10 ≤ k) : zK6 k k pr h sa sa.length 0 [] = some (.inl ((List.range sa.length).map (zBi sa pr h))) := by
 have hn := L.n3
 obtain ⟨s', h1, h2⟩ := vO (L := fun n i (s : List Int) => zK6 k n pr h sa sa.length i s) (N := sa.length) (fun s => .inl s) (fun i s => s = (List.range i).map (zBi sa pr h)) (fun n s _ => by
  show zJi k _ pr h sa sa.length sa.length s = _
  unfold zJi
  simp only [zY, vMn (Nat.lt_irrefl _), vMt]) (fun n i s hi hs => by
  refine ⟨s ++ [zBi sa pr h i], ?_, ?_⟩
  ·show zJi k _ pr h sa sa.length i s = _
   unfold zJi
   have hsl : s.length ≤ 3 := by rw [hs, List.length_map, List.length_range]; omega
   have hw := yWd k (L.price i hi) (L.hold i hi) (L.cut i hi)
   simp only [zY, qH, vMu, vMm hi, vMm (show i < pr.length by rw [L.pl]; exact hi), vMm (show i < h.length by rw [L.hl]; exact hi), vMs, qO hi (show sa.length < 9223372036854775808 by omega)]
   rw [hw]
   simp only [vMr, vMw, vMt, vR (show (s.length + 1) * 8 ≤ 70368744177664 by omega) (show s.length + 1 ≤ 70368744177664 by omega), vMs]
   rfl
  ·rw [hs, List.range_succ, List.map_append]; rfl) (s := []) (show sa.length < k by omega) rfl
 have h1' : zK6 k k pr h sa sa.length 0 [] = _ := h1
 rw [h1', h2]
theorem qKm {k : Nat} {sa : List zAj} {pr h : List Int} (L : zA4 sa pr h) (hk : 10 ≤ k) : zEh k sa pr h = some (zBo sa pr h, true) := by
 have hn := L.n3
 have hb := qAu (g := zBi sa pr h) (n := sa.length) (fun j hj => zPl L hj)
 have hm : (sa.length : Int) * 1152921504606846976 ≤ 3 * 1152921504606846976 := Int.mul_le_mul_of_nonneg_right (by omega) (by decide)
 unfold zEh
 have e1 : decide ((pr.length : Int) = (sa.length : Int)) = true := vMm (by rw [L.pl])
 have e2 : decide ((h.length : Int) = (sa.length : Int)) = true := vMm (by rw [L.hl])
 simp only [e1, e2, vMw, vMt]
 rw [vHl L hk]
 simp only [vMr]
 rw [qD6 (by rw [List.length_map, List.length_range]; omega) (by rw [List.length_map, List.length_range]; omega) (fun i hi => by
  rw [List.length_map, List.length_range] at hi
  have := zPl L hi
  have e : ((List.range sa.length).map (zBi sa pr h)).getD i 0 = zBi sa pr h i := by
   rw [List.getD_eq_getElem?_getD, List.getElem?_map, List.getElem?_range hi]; rfl
  rw [e]; omega)]
 rw [qB6]
 have e3 : zF5 (zW (zBi sa pr h) sa.length) = true := by
  unfold zF5
  rw [vMm (by omega), vMm (by omega)]; rfl
 rw [e3]
 rfl
theorem zX8 {sa : List zAj} {pr h : List Int} (L : zA4 sa pr h) : 0 ≤ zBo sa pr h := (qAu (g := zBi sa pr h) (n := sa.length) (fun j hj => zPl L hj)).1
theorem qZn {k : Nat} {l : List Int} (hl : l.length ≤ 1000) {i : Int} (h0 : 0 ≤ i) (h1 : i < l.length) (v : Int) : zDj k l i v = some (l.set i.toNat v) := by
 unfold zDj
 have e2 : zDy k l = some l := by
  unfold zDy
  rw [vR (by omega) (by omega)]
  rfl
 simp only [e2, vMr, vMm (show i ≥ 0 by omega), vMm h1, vMs, zZ8 h0 h1]
abbrev BT := List qM × List (List Int) × List Int × List (List Int)
def qY (B : BT) : Prop := vY B.1 B.2.1 B.2.2.1 B.2.2.2
theorem zSa {k : Nat} (hk : 100 < k) {B : BT} (h : qY B) {l : List zB} (hl : l.length ≤ 80) :
  ∃ r, zDu k B.1 B.2.1 B.2.2.1 B.2.2.2 l = some r ∧ zR4 k B.1 B.2.1 B.2.2.1 B.2.2.2 l = some r ∧ zD4 B.1 B.2.1 B.2.2.1 B.2.2.2 l r := by
 obtain ⟨r, h1, h2⟩ := zYu hk h hl
 obtain ⟨r', h3, h4⟩ := vI9 hk h hl
 have := h2.same h4
 subst this
 exact ⟨r, h1, h3, h2⟩
def zD1 (B : BT) (l : List zB) : Bool := zPs B.1 B.2.1 B.2.2.1 B.2.2.2 l
def jS (k : Nat) (B : BT) (l : List zB) : Option BT := match zDu k B.1 B.2.1 B.2.2.1 B.2.2.2 l with
 | some r => bif decide (r.2.2.2.2 = 0) && zD1 B l then some (r.1, r.2.1, r.2.2.1, r.2.2.2.1) else none
 | none => none
theorem zMh {k : Nat} (hk : 100 < k) {B C : BT} (h : qY B) {l : List zB} (hl : l.length ≤ 80) (hg : jS k B l = some C) : qY C ∧ C.1.length = B.1.length := by
 obtain ⟨r, h1, h2, h3⟩ := zSa hk h hl
 unfold jS at hg
 rw [h1] at hg
 simp only at hg
 cases hc : decide (r.2.2.2.2 = 0) && zD1 B l with
 | false =>
  rw [hc] at hg
  cases hg
 | true =>
  rw [hc] at hg
  simp only [vMs, Option.some.injEq] at hg
  subst hg
  refine ⟨(zQ3 h h3).2.1, ?_⟩
  have := zQ3 h h3
  by_cases c : vI B.1.length l
  ·obtain ⟨a', p', x, e⟩ := h3.1 c
   cases hi : isB a' B.2.1 B.2.2.1 p' with
   | false => rw [hi] at e; subst e; rfl
   | true => rw [hi] at e; subst e; exact x.al
  ·rw [h3.2 c]
def wE (k : Nat) (B : BT) : List zB → Option (zB × BT)
 | [] => none
 | p :: l => match jS k B [p] with
  | some C => some (p, C)
  | none => wE k B l
theorem zRs {k : Nat} {B C : BT} {p : zB} : ∀ {l : List zB}, wE k B l = some (p, C) → p ∈ l ∧ jS k B [p] = some C
 | [], h => by cases h
 | q :: l, h => by
  unfold wE at h
  cases hg : jS k B [q] with
  | some D =>
   rw [hg] at h
   cases h
   exact ⟨List.mem_cons_self .., hg⟩
  | none =>
   rw [hg] at h
   have := zRs h
   exact ⟨List.mem_cons_of_mem _ this.1, this.2⟩
theorem yGk (k : Nat) (B : BT) {m : List zB} {i : Nat} (hi : i < m.length) : wE k B (m.drop i) = match jS k B [m.getD i pd] with
  | some C => some (m.getD i pd, C)
  | none => wE k B (m.drop (i + 1)) := by
 rw [List.drop_eq_getElem_cons hi]
 have e : m.getD i pd = m[i] := by rw [List.getD_eq_getElem?_getD, List.getElem?_eq_getElem hi]; rfl
 rw [e]
 rfl
theorem qG4 (l : List zB) (t : Int) : (yY l t).length ≤ l.length := Nat.le_trans (List.length_filter_le _ _) (List.length_filter_le _ _)
theorem vDb (m : List zB) (i : Nat) (hi : i < m.length) : yB m (0 + i) (i + 1 - i) = [m.getD i pd] := by
 unfold yB
 rw [Nat.zero_add, show i + 1 - i = 1 by omega, List.drop_eq_getElem_cons hi, List.getD_eq_getElem?_getD, List.getElem?_eq_getElem hi]
 rfl
def jD (l : List zB) (id : Int) : List zB := (zDw l id).1
theorem zMv {l : List zB} {p : zB} (h : p ∈ l) : (jD l p.1).length + 1 = l.length ∧ List.Sublist (jD l p.1) l := by
 obtain ⟨x, hx⟩ := zZg h
 unfold jD zDw
 rw [hx]
 have := (zCu hx).1
 refine ⟨?_, zFg l x⟩
 show (yU l x).length + 1 = l.length
 rw [zDl this]
 omega
theorem zTw {l : List zB} {t : Int} {p : zB} (h : p ∈ yY l t) : p ∈ l := (List.mem_filter.1 (List.mem_filter.1 h).1).1
inductive Ran (k : Nat) (t : Int) : BT → List zB → List zB → BT → List zB → Prop
 | stop {B : BT} {l : List zB} (h : wE k B (yY l t) = none) : Ran k t B l [] B l
 | step {B C D : BT} {l m done : List zB} {p : zB} (h : wE k B (yY l t) = some (p, C)) (h' : Ran k t C (jD l p.1) done D m) : Ran k t B l (p :: done) D m
theorem qYp {k : Nat} (hk : 100 < k) {B : BT} (h : qY B) {l : List zB} (hl : l.length ≤ 80) : zIj k B.1 B.2.1 B.2.2.1 B.2.2.2 l = some (zD1 B l) := vF1 hk h hl
theorem qX8 {k : Nat} (hk : 100 < k) {B : BT} (h : qY B) (m : List zB) (hm : m.length ≤ 1000) : ∀ c i n, i + c = m.length → c < n →
  zQd k n m.length i B.1 B.2.1 B.2.2.1 B.2.2.2 0 0 0 0 0 0 0 m = some (match wE k B (m.drop i) with
   | some (p, C) => .inr (true, p.1, p.2.1, p.2.2.1, p.2.2.2.1, p.2.2.2.2.1, p.2.2.2.2.2.1, p.2.2.2.2.2.2, C.1, C.2.1, C.2.2.1, C.2.2.2)
   | none => .inl (B.1, B.2.1, B.2.2.1, B.2.2.2, 0, 0, 0, 0, 0, 0, 0))
 | 0, i, n, e, hn => by
  obtain ⟨n, rfl⟩ : ∃ x, n = x + 1 := ⟨n - 1, by omega⟩
  have : i = m.length := by omega
  subst this
  show zMu k _ m.length m.length B.1 B.2.1 B.2.2.1 B.2.2.2 0 0 0 0 0 0 0 m = _
  unfold zMu
  simp only [zY, vMn (Nat.lt_irrefl _), vMt, List.drop_length]
  rfl
 | c + 1, i, n, e, hn => by
  obtain ⟨n, rfl⟩ : ∃ x, n = x + 1 := ⟨n - 1, by omega⟩
  have hi : i < m.length := by omega
  have ih := qX8 hk h m hm c (i + 1) n (by omega) (by omega)
  show zMu k _ m.length i B.1 B.2.1 B.2.2.1 B.2.2.2 0 0 0 0 0 0 0 m = _
  unfold zMu
  obtain ⟨r, h1, h2, h3⟩ := zSa hk h (l := [m.getD i pd]) (by simp)
  have hf := qYp hk h (l := [m.getD i pd]) (by simp)
  simp only [pd] at h1 hf
  simp only [qH, qO hi (show m.length < 9223372036854775808 by omega), zY, vMu, vMm hi, vMs, hf, h1, vMr]
  rw [yGk k B hi]
  unfold jS
  simp only [pd, h1]
  cases zD1 B [m.getD i (0, (0, (0, (0, (0, (0, 0))))))] with
  | false =>
   simp only [vMx, vMs, Bool.and_false, vMt]
   exact ih
  | true =>
   simp only [vMw, vMt, Bool.and_true]
   cases decide (r.2.2.2.2 = 0) with
   | false => exact ih
   | true => rfl
def qOh (B : BT) (x : Option (zB × BT)) : Int × Int × Int × Int × Int × Int × Int × (List (Int × Int × Int)) × (List (List Int)) × (List Int) × (List (List Int)) × Bool := match x with
 | some (p, C) => (p.1, p.2.1, p.2.2.1, p.2.2.2.1, p.2.2.2.2.1, p.2.2.2.2.2.1, p.2.2.2.2.2.2, C.1, C.2.1, C.2.2.1, C.2.2.2, true)
 | none => (0, 0, 0, 0, 0, 0, 0, B.1, B.2.1, B.2.2.1, B.2.2.2, false)
theorem yOh {k : Nat} (hk : 100 < k) {B : BT} (h : qY B) {l : List zB} (hkl : l.length < k) (hl : qZ l) (hd : qT l) (t : Int) : zSh k B.1 B.2.1 B.2.2.1 B.2.2.2 l t = some (qOh B (wE k B (yY l t))) := by
 unfold zSh
 rw [yGu hkl hl hd]
 have hml := qG4 l t
 unfold qZ at hl
 have := qX8 hk h (yY l t) (by omega) (yY l t).length 0 k (by omega) (by omega)
 have e : ((0 : Nat) : Int) = 0 := rfl
 rw [e, List.drop_zero] at this
 simp only [vMr]
 rw [this]
 cases wE k B (yY l t) with
 | none => rfl
 | some x => rfl
theorem yOc {k : Nat} (hk : 100 < k) (t : Int) : ∀ (n : Nat) (B : BT) (l r : List zB), qY B → qT l → l.length ≤ 100 → l.length < n → r.length + l.length ≤ 1000 →
  ∃ (C : BT) (m done : List zB), zRc k n t l B.1 B.2.1 B.2.2.1 B.2.2.2 r = some (m, C.1, C.2.1, C.2.2.1, C.2.2.2, r ++ done) ∧ Ran k t B l done C m ∧ qY C ∧ C.1.length = B.1.length ∧ List.Sublist m l
 | 0, _, _, _, _, _, _, h, _ => absurd h (Nat.not_lt_zero _)
 | n + 1, B, l, r, hb, hd, hl, hn, hr => by
  have h1 := yOh hk hb (l := l) (by omega) (by show l.length ≤ 1000; omega) hd t
  cases hx : wE k B (yY l t) with
  | none =>
   rw [hx] at h1
   refine ⟨B, l, [], ?_, .stop hx, hb, rfl, List.Sublist.refl _⟩
   show zMi k _ t l B.1 B.2.1 B.2.2.1 B.2.2.2 r = _
   unfold zMi
   rw [h1]
   simp only [vMr, qOh, vMx, vMs, List.append_nil]
  | some x =>
   obtain ⟨p, C⟩ := x
   rw [hx] at h1
   obtain ⟨hp, hg⟩ := zRs hx
   have hpl := zTw hp
   obtain ⟨hl1, hl2⟩ := zMv hpl
   obtain ⟨hc1, hc2⟩ := zMh hk hb (by simp) hg
   obtain ⟨D, m, done, g1, g3, g4, g5, g6⟩ := yOc hk t n C (jD l p.1) (r ++ [p]) hc1 (List.Pairwise.sublist hl2 hd) (by omega) (by omega) (by rw [List.length_append]; simp; omega)
   refine ⟨D, m, p :: done, ?_, .step hx g3, g4, g5.trans hc2, g6.trans hl2⟩
   show zMi k _ t l B.1 B.2.1 B.2.2.1 B.2.2.2 r = _
   unfold zMi
   rw [h1]
   simp only [vMr, qOh, vMw, vMt, zIn (show l.length < k by omega) (show qZ l by show l.length ≤ 1000; omega), zCq (show r.length ≤ 1000 by omega), vMs]
   rw [List.append_cons r p done, ← g1]
   rfl
theorem yTk {k : Nat} (hk : 200 ≤ k) {B : BT} (hb : qY B) {l : List zB} (hd : qT l) (hl : l.length ≤ 100) (t : Int) :
  ∃ (C : BT) (m done : List zB), zW2 k B.1 B.2.1 B.2.2.1 B.2.2.2 l t = some (C.1, C.2.1, C.2.2.1, C.2.2.2, m, done) ∧ Ran k t B l done C m ∧ qY C ∧ C.1.length = B.1.length ∧ List.Sublist m l := by
 obtain ⟨C, m, done, h1, h3⟩ := yOc (show 100 < k by omega) t k B l [] hb hd hl (by omega) (by simp; omega)
 refine ⟨C, m, done, ?_, h3⟩
 unfold zW2
 rw [h1]
 rfl
def duo (p q : zB) : Bool := decide (q.2.1 = p.2.2.1) && (decide (q.2.2.1 = p.2.1) && !decide (p.2.1 ≥ q.2.1))
def zEg (k : Nat) (B : BT) (p : zB) : List zB → Option (zB × BT)
 | [] => none
 | q :: l => match (bif duo p q then jS k B [p, q] else none) with
  | some C => some (q, C)
  | none => zEg k B p l
def zG2 (k : Nat) (B : BT) (m : List zB) : List zB → Option (zB × zB × BT)
 | [] => none
 | p :: l => match zEg k B p m with
  | some (q, C) => some (p, q, C)
  | none => zG2 k B m l
theorem qMk {k : Nat} {B C : BT} {p q : zB} : ∀ {l : List zB}, zEg k B p l = some (q, C) → q ∈ l ∧ duo p q = true ∧ jS k B [p, q] = some C
 | [], h => by cases h
 | r :: l, h => by
  unfold zEg at h
  cases hd : duo p r with
  | false =>
   rw [hd] at h
   have := qMk (l := l) h
   exact ⟨List.mem_cons_of_mem _ this.1, this.2⟩
  | true =>
   rw [hd] at h
   simp only [vMs] at h
   cases hg : jS k B [p, r] with
   | some D =>
    rw [hg] at h
    cases h
    exact ⟨List.mem_cons_self .., hd, hg⟩
   | none =>
    rw [hg] at h
    have := qMk (l := l) h
    exact ⟨List.mem_cons_of_mem _ this.1, this.2⟩
theorem zZi {k : Nat} {B C : BT} {p q : zB} {m : List zB} : ∀ {l : List zB}, zG2 k B m l = some (p, q, C) → p ∈ l ∧ q ∈ m ∧ duo p q = true ∧ jS k B [p, q] = some C
 | [], h => by cases h
 | r :: l, h => by
  unfold zG2 at h
  cases hq : zEg k B r m with
  | some x =>
   obtain ⟨y, D⟩ := x
   rw [hq] at h
   cases h
   exact ⟨List.mem_cons_self .., qMk hq⟩
  | none =>
   rw [hq] at h
   have := zZi (l := l) h
   exact ⟨List.mem_cons_of_mem _ this.1, this.2⟩
theorem qUr {α : Type} {l : List α} {i : Nat} (h : i < l.length) (d : α) : l.getD i d = l[i] := by
 rw [List.getD_eq_getElem?_getD, List.getElem?_eq_getElem h]; rfl
theorem yUw (k : Nat) (B : BT) (p : zB) {m : List zB} {i : Nat} (hi : i < m.length) : zEg k B p (m.drop i) = match (bif duo p (m.getD i pd) then jS k B [p, m.getD i pd] else none) with
  | some C => some (m.getD i pd, C)
  | none => zEg k B p (m.drop (i + 1)) := by
 rw [List.drop_eq_getElem_cons hi, qUr hi]
 rfl
theorem vH9 (k : Nat) (B : BT) (r : List zB) {m : List zB} {i : Nat} (hi : i < m.length) : zG2 k B r (m.drop i) = match zEg k B (m.getD i pd) r with
  | some (q, C) => some (m.getD i pd, q, C)
  | none => zG2 k B r (m.drop (i + 1)) := by
 rw [List.drop_eq_getElem_cons hi, qUr hi]
 rfl
def zAf (k : Nat) (B : BT) (l : List zB) (t : Int) : Option (zB × zB × BT) := zG2 k B (yY l t) (yY l t)
theorem yQ6 {l : List zB} {x : Nat} {q : zB} (hx : x < l.length) (h : q ∈ l) (hne : q ≠ l.getD x pd) : q ∈ yU l x := by
 unfold yU
 have e := zOy l x pd hx
 rw [e] at h
 rw [List.mem_append, List.mem_cons] at h
 rw [List.mem_append]
 rcases h with h | h | h
 ·exact .inl h
 ·exact absurd h hne
 ·exact .inr h
theorem qT.eq_of {l : List zB} (h : qT l) {p q : zB} (hp : p ∈ l) (hq : q ∈ l) (e : p.1 = q.1) : p = q := by
 obtain ⟨i, hi, ei⟩ := List.getElem_of_mem hp
 obtain ⟨j, hj, ej⟩ := List.getElem_of_mem hq
 have hl := List.pairwise_iff_getElem.1 h
 by_cases c : i < j
 ·exact absurd (by rw [ei, ej]; exact e) (hl i j hi hj c)
 ·by_cases c' : j < i
  ·exact absurd (by rw [ei, ej]; exact e.symm) (hl j i hj hi c')
  ·have : i = j := by omega
   subst this
   rw [← ei, ← ej]
theorem qJ4 {l : List zB} {p q : zB} (hp : p ∈ l) (hq : q ∈ l) (hne : q.1 ≠ p.1) : q ∈ jD l p.1 := by
 obtain ⟨x, hx⟩ := zZg hp
 unfold jD zDw
 rw [hx]
 have := zCu hx
 exact yQ6 this.1 hq (fun e => hne (by rw [e]; exact this.2))
def zIi (l : List zB) (p q : zB) : List zB := jD (jD l p.1) q.1
theorem zW9 {k : Nat} {B C : BT} {l : List zB} {t : Int} {p q : zB} (h : zAf k B l t = some (p, q, C)) : p ∈ l ∧ q ∈ l ∧ duo p q = true ∧ jS k B [p, q] = some C := by
 obtain ⟨h1, h2, h3⟩ := zZi h
 exact ⟨zTw h1, zTw h2, h3⟩
theorem qU5 {l : List zB} (hd : qT l) {p q : zB} (hp : p ∈ l) (hq : q ∈ l) (h : duo p q = true) : q.1 ≠ p.1 := by
 intro e
 have := hd.eq_of hq hp e
 subst this
 unfold duo at h
 simp at h
theorem zW3 {l : List zB} (hd : qT l) {p q : zB} (hp : p ∈ l) (hq : q ∈ l) (h : duo p q = true) : (zIi l p q).length + 2 = l.length ∧ List.Sublist (zIi l p q) l := by
 obtain ⟨h1, h2⟩ := zMv hp
 obtain ⟨h3, h4⟩ := zMv (qJ4 hp hq (qU5 hd hp hq h))
 unfold zIi
 exact ⟨by omega, h4.trans h2⟩
inductive jQ (k : Nat) (t : Int) : BT → List zB → List zB → BT → List zB → Prop
 | stop {B : BT} {l : List zB} (h : zAf k B l t = none) : jQ k t B l [] B l
 | step {B C D : BT} {l m done : List zB} {p q : zB} (h : zAf k B l t = some (p, q, C)) (h' : jQ k t C (zIi l p q) done D m) : jQ k t B l (p :: q :: done) D m
theorem jQ.length {k : Nat} {t : Int} {B C : BT} {l done m : List zB} (h : jQ k t B l done C m) (hd : qT l) : done.length + m.length = l.length ∧ done.length % 2 = 0 := by
 induction h with
 | stop _ => simp
 | step h _ ih =>
  obtain ⟨hp, hq, hdu, _⟩ := zW9 h
  obtain ⟨h1, h2⟩ := zW3 hd hp hq hdu
  have := ih (List.Pairwise.sublist h2 hd)
  simp only [List.length_cons]
  omega
theorem jQ.sub {k : Nat} {t : Int} {B C : BT} {l done m : List zB} (h : jQ k t B l done C m) (hd : qT l) : List.Sublist m l := by
 induction h with
 | stop _ => exact List.Sublist.refl _
 | step h _ ih =>
  obtain ⟨hp, hq, hdu, _⟩ := zW9 h
  obtain ⟨h1, h2⟩ := zW3 hd hp hq hdu
  exact (ih (List.Pairwise.sublist h2 hd)).trans h2
theorem yLy {k : Nat} (hk : 100 < k) {B : BT} (h : qY B) (m : List zB) (hm : m.length ≤ 1000) (p : zB) (s19 s20 : Int) : ∀ c i n, i + c = m.length → c < n →
  zO7 k n s19 s20 m.length i B.1 B.2.1 B.2.2.1 B.2.2.2 0 0 0 0 0 0 0 0 0 0 0 0 0 0 m p.1 p.2.1 p.2.2.1 p.2.2.2.1 p.2.2.2.2.1 p.2.2.2.2.2.1 p.2.2.2.2.2.2 = some (match zEg k B p (m.drop i) with
   | some (q, C) => .inr (true, p.1, p.2.1, p.2.2.1, p.2.2.2.1, p.2.2.2.2.1, p.2.2.2.2.2.1, p.2.2.2.2.2.2, q.1, q.2.1, q.2.2.1, q.2.2.2.1, q.2.2.2.2.1, q.2.2.2.2.2.1, q.2.2.2.2.2.2, C.1, C.2.1, C.2.2.1, C.2.2.2)
   | none => .inl (s19, s20, B.1, B.2.1, B.2.2.1, B.2.2.2, 0, 0, 0, 0, 0, 0, 0, 0, 0, 0, 0, 0, 0, 0, m))
 | 0, i, n, e, hn => by
  obtain ⟨n, rfl⟩ : ∃ x, n = x + 1 := ⟨n - 1, by omega⟩
  have : i = m.length := by omega
  subst this
  show zNe k _ s19 s20 m.length m.length B.1 B.2.1 B.2.2.1 B.2.2.2 0 0 0 0 0 0 0 0 0 0 0 0 0 0 m p.1 p.2.1 p.2.2.1 p.2.2.2.1 p.2.2.2.2.1 p.2.2.2.2.2.1 p.2.2.2.2.2.2 = _
  unfold zNe
  simp only [zY, vMn (Nat.lt_irrefl _), vMt, List.drop_length]
  rfl
 | c + 1, i, n, e, hn => by
  obtain ⟨n, rfl⟩ : ∃ x, n = x + 1 := ⟨n - 1, by omega⟩
  have hi : i < m.length := by omega
  have ih := yLy hk h m hm p s19 s20 c (i + 1) n (by omega) (by omega)
  show zNe k _ s19 s20 m.length i B.1 B.2.1 B.2.2.1 B.2.2.2 0 0 0 0 0 0 0 0 0 0 0 0 0 0 m p.1 p.2.1 p.2.2.1 p.2.2.2.1 p.2.2.2.2.1 p.2.2.2.2.2.1 p.2.2.2.2.2.2 = _
  unfold zNe
  obtain ⟨r, h1, h2, h3⟩ := zSa hk h (l := [p, m.getD i pd]) (by simp)
  have hf := qYp hk h (l := [p, m.getD i pd]) (by simp)
  have h1' : zDu k B.1 B.2.1 B.2.2.1 B.2.2.2 [(p.1, p.2.1, p.2.2.1, p.2.2.2.1, p.2.2.2.2.1, p.2.2.2.2.2.1, p.2.2.2.2.2.2), m.getD i (0, (0, (0, (0, (0, (0, 0))))))] = some r := h1
  have hf' : zIj k B.1 B.2.1 B.2.2.1 B.2.2.2 [(p.1, p.2.1, p.2.2.1, p.2.2.2.1, p.2.2.2.2.1, p.2.2.2.2.2.1, p.2.2.2.2.2.2), m.getD i (0, (0, (0, (0, (0, (0, 0))))))] = some (zD1 B [p, m.getD i pd]) := hf
  simp only [qH, qO hi (show m.length < 9223372036854775808 by omega), zY, vMu, vMm hi, vMs, hf', h1', vMr]
  rw [yUw k B p hi]
  unfold duo
  cases decide ((m.getD i pd).2.1 = p.2.2.1) with
  | false => exact ih
  | true =>
   cases decide ((m.getD i pd).2.2.1 = p.2.1) with
   | false => exact ih
   | true =>
    cases decide (p.2.1 ≥ (m.getD i pd).2.1) with
    | true => exact ih
    | false =>
     unfold jS
     rw [h1]
     simp only [vMw, vMx, Bool.and_true, vMs, vMt]
     cases zD1 B [p, m.getD i pd] with
     | false =>
      simp only [vMx, vMs, Bool.and_false, vMt]
      exact ih
     | true =>
      simp only [vMw, vMt, Bool.and_true]
      cases decide (r.2.2.2.2 = 0) with
      | false => exact ih
      | true => rfl
theorem yE8 {k : Nat} (hk : 100 < k) {B : BT} (h : qY B) (m : List zB) (hm : m.length ≤ 1000) (hmk : m.length < k) : ∀ c i n, i + c = m.length → c < n →
  zR2 k n m.length i B.1 B.2.1 B.2.2.1 B.2.2.2 0 0 0 0 0 0 0 0 0 0 0 0 0 0 m = some (match zG2 k B m (m.drop i) with
   | some (p, q, C) => .inr (true, p.1, p.2.1, p.2.2.1, p.2.2.2.1, p.2.2.2.2.1, p.2.2.2.2.2.1, p.2.2.2.2.2.2, q.1, q.2.1, q.2.2.1, q.2.2.2.1, q.2.2.2.2.1, q.2.2.2.2.2.1, q.2.2.2.2.2.2, C.1, C.2.1, C.2.2.1, C.2.2.2)
   | none => .inl (0, 0, 0, 0, 0, 0, 0, 0, 0, 0, 0, 0, 0, 0))
 | 0, i, n, e, hn => by
  obtain ⟨n, rfl⟩ : ∃ x, n = x + 1 := ⟨n - 1, by omega⟩
  have : i = m.length := by omega
  subst this
  show zNl k _ m.length m.length B.1 B.2.1 B.2.2.1 B.2.2.2 0 0 0 0 0 0 0 0 0 0 0 0 0 0 m = _
  unfold zNl
  simp only [zY, vMn (Nat.lt_irrefl _), vMt, List.drop_length]
  rfl
 | c + 1, i, n, e, hn => by
  obtain ⟨n, rfl⟩ : ∃ x, n = x + 1 := ⟨n - 1, by omega⟩
  have hi : i < m.length := by omega
  have ih := yE8 hk h m hm hmk c (i + 1) n (by omega) (by omega)
  show zNl k _ m.length i B.1 B.2.1 B.2.2.1 B.2.2.2 0 0 0 0 0 0 0 0 0 0 0 0 0 0 m = _
  unfold zNl
  have hin := yLy hk h m hm (m.getD i pd) m.length i m.length 0 k (by omega) hmk
  have e0 : ((0 : Nat) : Int) = 0 := rfl
  rw [e0, List.drop_zero] at hin
  simp only [pd] at hin
  simp only [qH, zY, vMu, vMm hi, vMs]
  rw [hin]
  rw [vH9 k B m hi]
  simp only [pd]
  cases zEg k B (m.getD i (0, (0, (0, (0, (0, (0, 0))))))) m with
  | none =>
   simp only [vMr, qO hi (show m.length < 9223372036854775808 by omega)]
   exact ih
  | some x => rfl
def qNa (x : Option (zB × zB × BT)) : Int × Int × Int × Int × Int × Int × Int × Int × Int × Int × Int × Int × Int × Int × (List (Int × Int × Int)) × (List (List Int)) × (List Int) × (List (List Int)) × Bool := match x with
 | some (p, q, C) => (p.1, p.2.1, p.2.2.1, p.2.2.2.1, p.2.2.2.2.1, p.2.2.2.2.2.1, p.2.2.2.2.2.2, q.1, q.2.1, q.2.2.1, q.2.2.2.1, q.2.2.2.2.1, q.2.2.2.2.2.1, q.2.2.2.2.2.2, C.1, C.2.1, C.2.2.1, C.2.2.2, true)
 | none => (0, 0, 0, 0, 0, 0, 0, 0, 0, 0, 0, 0, 0, 0, [], [], [], [], false)
theorem vJm {k : Nat} (hk : 100 < k) {B : BT} (h : qY B) {l : List zB} (hkl : l.length < k) (hl : qZ l) (hd : qT l) (t : Int) : qA0 k B.1 B.2.1 B.2.2.1 B.2.2.2 l t = some (qNa (zAf k B l t)) := by
 unfold qA0 zAf
 rw [yGu hkl hl hd]
 have hml := qG4 l t
 unfold qZ at hl
 have := yE8 hk h (yY l t) (by omega) (by omega) (yY l t).length 0 k (by omega) (by omega)
 have e : ((0 : Nat) : Int) = 0 := rfl
 rw [e, List.drop_zero] at this
 simp only [vMr]
 rw [this]
 cases zG2 k B (yY l t) (yY l t) with
 | none => rfl
 | some x => rfl
theorem yXk {k : Nat} (hk : 3 ≤ k) (t : Int) (l : List zB) (hl : l.length ≤ 1000) (hlk : l.length < k) (C : BT) (r : List zB) (hr : r.length ≤ 900) (p q : zB) :
  zE8 k k t l 2 0 C.1 C.2.1 C.2.2.1 C.2.2.2 r [p, q] = some (t, zIi l p q, C.1, C.2.1, C.2.2.1, C.2.2.2, r ++ [p, q]) := by
 obtain ⟨n, rfl⟩ : ∃ n, k = n + 3 := ⟨k - 3, by omega⟩
 have h1 := zIn hlk (show qZ l from hl) p.1
 have hl1 : (jD l p.1).length ≤ l.length := by
  unfold jD zDw
  cases hp : wG l p.1 with
  | none => exact Nat.le_refl _
  | some x => exact List.Sublist.length_le (zFg l x)
 have h2 := zIn (k := n + 3) (l := jD l p.1) (by omega) (show (jD l p.1).length ≤ 1000 by omega) q.1
 have e1 : qR (r.length + 1) 56 = true := zCq (by omega)
 have e2 : qR ((r ++ [p]).length + 1) 56 = true := zCq (by rw [List.length_append]; simp; omega)
 show zGc (n + 3) (zE8 (n + 3) (n + 2)) t l 2 0 C.1 C.2.1 C.2.2.1 C.2.2.2 r [p, q] = _
 unfold zGc
 have g0 : [p, q].getD (Int.toNat 0) (0, (0, (0, (0, (0, (0, 0)))))) = p := rfl
 have b0 : zE 0 [p, q].length = true := rfl
 have d0 : decide ((0 : Int) < 2) = true := rfl
 have w0 : zA (0 + 1) = 1 := by decide
 rw [d0, b0, g0, h1]
 simp only [vMs, vMr, e1, w0]
 show zGc (n + 3) (zE8 (n + 3) (n + 1)) t (jD l p.1) 2 1 C.1 C.2.1 C.2.2.1 C.2.2.2 (r ++ [p]) [p, q] = _
 unfold zGc
 have g1 : [p, q].getD (Int.toNat 1) (0, (0, (0, (0, (0, (0, 0)))))) = q := rfl
 have b1 : zE 1 [p, q].length = true := rfl
 have d1 : decide ((1 : Int) < 2) = true := rfl
 have w1 : zA (1 + 1) = 2 := by decide
 rw [d1, b1, g1, h2]
 simp only [vMs, vMr, e2, w1]
 show zGc (n + 3) (zE8 (n + 3) n) t (zIi l p q) 2 2 C.1 C.2.1 C.2.2.1 C.2.2.2 (r ++ [p] ++ [q]) [p, q] = _
 unfold zGc
 have d2 : decide ((2 : Int) < 2) = false := rfl
 rw [d2, List.append_assoc]
 rfl
theorem yDh {k : Nat} (hk : 100 < k) (t : Int) : ∀ (n : Nat) (B : BT) (l r : List zB), qY B → qT l → l.length ≤ 100 → l.length < n → r.length + l.length ≤ 900 →
  ∃ (C : BT) (m done : List zB), zPy k n t l B.1 B.2.1 B.2.2.1 B.2.2.2 r = some (m, C.1, C.2.1, C.2.2.1, C.2.2.2, r ++ done) ∧ jQ k t B l done C m ∧ qY C ∧ C.1.length = B.1.length ∧ List.Sublist m l
 | 0, _, _, _, _, _, _, h, _ => absurd h (Nat.not_lt_zero _)
 | n + 1, B, l, r, hb, hd, hl, hn, hr => by
  have h1 := vJm hk hb (l := l) (by omega) (by show l.length ≤ 1000; omega) hd t
  cases hx : zAf k B l t with
  | none =>
   rw [hx] at h1
   refine ⟨B, l, [], ?_, .stop hx, hb, rfl, List.Sublist.refl _⟩
   show zL1 k _ t l B.1 B.2.1 B.2.2.1 B.2.2.2 r = _
   unfold zL1
   rw [h1]
   simp only [vMr, qNa, vMx, vMs, List.append_nil]
  | some x =>
   obtain ⟨p, q, C⟩ := x
   rw [hx] at h1
   obtain ⟨hp, hq, hdu, hg⟩ := zW9 hx
   obtain ⟨hl1, hl2⟩ := zW3 hd hp hq hdu
   obtain ⟨hc1, hc2⟩ := zMh hk hb (by simp) hg
   obtain ⟨D, m, done, g1, g3, g4, g5, g6⟩ := yDh hk t n C (zIi l p q) (r ++ [p, q]) hc1 (List.Pairwise.sublist hl2 hd) (by omega) (by omega) (by rw [List.length_append]; simp; omega)
   have e2 : r ++ [p, q] ++ done = r ++ p :: q :: done := by rw [List.append_assoc]; rfl
   refine ⟨D, m, p :: q :: done, ?_, .step hx g3, g4, g5.trans hc2, g6.trans hl2⟩
   show zL1 k _ t l B.1 B.2.1 B.2.2.1 B.2.2.2 r = _
   unfold zL1
   rw [h1]
   have hL := yXk (k := k) (by omega) t l (by omega) (by omega) C r (by omega) p q
   simp only [vMr, qNa, vMw, vMt]
   have hL' : zE8 k k t l 2 0 C.1 C.2.1 C.2.2.1 C.2.2.2 r [(p.1, p.2.1, p.2.2.1, p.2.2.2.1, p.2.2.2.2.1, p.2.2.2.2.2.1, p.2.2.2.2.2.2), (q.1, q.2.1, q.2.2.1, q.2.2.2.1, q.2.2.2.2.1, q.2.2.2.2.2.1, q.2.2.2.2.2.2)] = _ := hL
   rw [hL']
   simp only [vMr]
   rw [g1, e2]
theorem vGt {k : Nat} (hk : 200 ≤ k) {B : BT} (hb : qY B) {l : List zB} (hd : qT l) (hl : l.length ≤ 100) (t : Int) :
  ∃ (C : BT) (m done : List zB), zTk k B.1 B.2.1 B.2.2.1 B.2.2.2 l t = some (C.1, C.2.1, C.2.2.1, C.2.2.2, m, done) ∧ jQ k t B l done C m ∧ qY C ∧ C.1.length = B.1.length ∧ List.Sublist m l := by
 obtain ⟨C, m, done, h1, h3⟩ := yDh (show 100 < k by omega) t k B l [] hb hd hl (by omega) (by simp; omega)
 refine ⟨C, m, done, ?_, h3⟩
 unfold zTk
 rw [h1]
 rfl
def wT (l : List zB) (f : Int) : Nat := (l.filter (vM f)).length
def zDh (l : List zB) (many : List Int) (i : Nat) : Bool :=
 (decide ((l.getD i pd).2.1 ≥ 0) && decide ((l.getD i pd).2.1 < (many.length : Int))) && decide (((wT (l.take i) (l.getD i pd).2.1 : Nat) : Int) < many.getD (l.getD i pd).2.1.toNat 0)
def zB6 (l : List zB) (many : List Int) : Nat → List zB
 | 0 => []
 | i + 1 => zB6 l many i ++ (bif zDh l many i then [l.getD i pd] else [])
def vN (l : List zB) (many : List Int) : List zB := zB6 l many l.length
theorem qR1 (l : List zB) (many : List Int) : ∀ N, N ≤ l.length → List.Sublist (zB6 l many N) (l.take N)
 | 0, _ => by simp [zB6]
 | N + 1, h => by
  rw [← zAo l N pd h]
  unfold zB6
  apply List.Sublist.append (qR1 l many N (by omega))
  cases zDh l many N <;> simp
theorem zL4 (l : List zB) (many : List Int) : List.Sublist (vN l many) l := by
 have := qR1 l many l.length (Nat.le_refl _)
 rwa [List.take_length] at this
def LeM (v w : List Int) : Prop := v.length = w.length ∧ ∀ i, i < w.length → v.getD i 0 ≤ w.getD i 0
def zAu (B : BT) (l : List zB) : List Int := zLx B.1 B.2.1 B.2.2.1 B.2.2.2 l
def jK (s : List Int) (m : List Int) : List Int := s.foldl (fun m i => m.set i.toNat (m.getD i.toNat 0 - 1)) m
theorem zIt : ∀ (s m : List Int), (jK s m).length = m.length
 | [], _ => rfl
 | i :: s, m => by
  show (jK s (m.set i.toNat (m.getD i.toNat 0 - 1))).length = _
  rw [zIt s, List.length_set]
theorem yDz : ∀ (s : List Nat) (m : List Int), s.Nodup → (∀ i ∈ s, i < m.length) → ∀ j, (jK (s.map fun (x : Nat) => (x : Int)) m).getD j 0 = m.getD j 0 - (if j ∈ s then 1 else 0)
 | [], m, _, _, j => by simp [jK]
 | i :: s, m, hs, hi, j => by
  show (jK (s.map fun (x : Nat) => (x : Int)) (m.set ((i : Int)).toNat (m.getD ((i : Int)).toNat 0 - 1))).getD j 0 = _
  rw [vMu, yDz s _ (List.nodup_cons.1 hs).2 (fun x hx => by rw [List.length_set]; exact hi x (List.mem_cons_of_mem _ hx)), wI]
  have h1 := hi i (List.mem_cons_self ..)
  have h2 := (List.nodup_cons.1 hs).1
  by_cases c : i = j
  ·subst c
   rw [if_pos ⟨rfl, h1⟩, if_neg h2, if_pos (List.mem_cons_self ..)]
   omega
  ·rw [if_neg (fun e => c e.1)]
   by_cases d : j ∈ s
   ·rw [if_pos d, if_pos (List.mem_cons_of_mem _ d)]
   ·rw [if_neg d, if_neg (fun e => by rcases List.mem_cons.1 e with e | e; exact c e.symm; exact d e)]
def zN1 (B : BT) (l : List zB) (i : Nat) : Bool := wV B.1 B.2.1 B.2.2.1 B.2.2.2 l i
theorem qXv (B : BT) (l : List zB) {m : List Int} (hm : m.length = B.1.length) (j : Nat) : (jK (zAu B l) m).getD j 0 = m.getD j 0 - (if j < B.1.length ∧ zN1 B l j = true then 1 else 0) := by
 have := yDz ((List.range B.1.length).filter fun i => zN1 B l i) m (List.Nodup.sublist List.filter_sublist List.nodup_range) (fun i hi => by have := (List.mem_filter.1 hi).1; rw [List.mem_range] at this; omega) j
 unfold zAu zLx
 rw [show (fun i => wV B.1 B.2.1 B.2.2.1 B.2.2.2 l i) = fun i => zN1 B l i from rfl, this]
 congr 1
 by_cases c : j < B.1.length ∧ zN1 B l j = true
 ·rw [if_pos c, if_pos (List.mem_filter.2 ⟨List.mem_range.2 c.1, c.2⟩)]
 ·rw [if_neg c, if_neg (fun e => c ⟨List.mem_range.1 (List.mem_filter.1 e).1, (List.mem_filter.1 e).2⟩)]
theorem qRt {l : List zB} {many : List Int} {p : zB} : ∀ {N : Nat}, p ∈ zB6 l many N → ∃ i, i < N ∧ l.getD i pd = p ∧ zDh l many i = true
 | 0, h => by cases h
 | N + 1, h => by
  unfold zB6 at h
  rw [List.mem_append] at h
  rcases h with h | h
  ·obtain ⟨i, h1, h2⟩ := qRt h
   exact ⟨i, by omega, h2⟩
  ·cases hh : zDh l many N with
   | true =>
    rw [hh] at h
    simp only [vMs, List.mem_singleton] at h
    exact ⟨N, by omega, h.symm, hh⟩
   | false =>
    rw [hh] at h
    cases h
theorem yQ2 {B : BT} {l : List zB} (hl : ∀ q ∈ l, yM B.1.length q) {m : List Int} {j : Nat} (h : zN1 B (vN l m) j = true) : 1 ≤ m.getD j 0 := by
 unfold zN1 wV at h
 rw [vMv, Bool.not_eq_true'] at h
 have hn := yNr (n := B.1.length) (l := vN l m) (fun q hq => hl q ((zL4 l m).subset hq)) j
 rw [h.1] at hn
 obtain ⟨x, hx, he⟩ := zVk.1 hn
 have hf : ((vN l m).getD x pd).2.1 = (j : Int) := by simpa using he
 obtain ⟨i, h1, h2, h3⟩ := qRt (wH (d := pd) hx)
 unfold zDh at h3
 have h2' : (l.getD i pd) = (vN l m).getD x pd := h2
 rw [h2', hf, vMu] at h3
 rw [vMv, vMq] at h3
 omega
inductive zBs (B : BT) (l : List zB) : List Int → List Int → Nat → Prop
 | stop {m : List Int} (h : zAu B (vN l m) = []) : zBs B l m m 0
 | step {m f : List Int} {n : Nat} (h : zAu B (vN l m) ≠ []) (h' : zBs B l (jK (zAu B (vN l m)) m) f n) : zBs B l m f (n + 1)
theorem yPz {B : BT} {l : List zB} {m : List Int} (hm : m.length = B.1.length) : LeM (jK (zAu B l) m) m := by
 refine ⟨zIt _ _, fun i hi => ?_⟩
 rw [qXv B l hm]
 split <;> omega
theorem LeM.trans {u v w : List Int} (h : LeM u v) (h' : LeM v w) : LeM u w := ⟨h.1.trans h'.1, fun i hi => Int.le_trans (h.2 i (by have := h'.1; omega)) (h'.2 i hi)⟩
theorem LeM.refl (v : List Int) : LeM v v := ⟨rfl, fun _ _ => Int.le_refl _⟩
theorem zBs.le {B : BT} {l : List zB} {m f : List Int} {n : Nat} (h : zBs B l m f n) (hm : m.length = B.1.length) : LeM f m := by
 induction h with
 | stop _ => exact LeM.refl _
 | step _ _ ih => exact (ih ((zIt _ _).trans hm)).trans (yPz hm)
theorem zBs.final {B : BT} {l : List zB} {m f : List Int} {n : Nat} (h : zBs B l m f n) : zAu B (vN l f) = [] := by
 induction h with
 | stop h => exact h
 | step _ _ ih => exact ih
def zEi (m : List Int) : Prop := ∀ i, 0 ≤ m.getD i 0
theorem qHy {B : BT} {l : List zB} (hl : ∀ q ∈ l, yM B.1.length q) {m : List Int} (hm : m.length = B.1.length) (h0 : zEi m) : zEi (jK (zAu B (vN l m)) m) := by
 intro i
 rw [qXv B _ hm]
 have := h0 i
 split
 ·rename_i c
  have := yQ2 hl c.2
  omega
 ·omega
theorem zBs.nonneg {B : BT} {l : List zB} (hl : ∀ q ∈ l, yM B.1.length q) {m f : List Int} {n : Nat} (h : zBs B l m f n) (hm : m.length = B.1.length) (h0 : zEi m) : zEi f := by
 induction h with
 | stop _ => exact h0
 | step _ _ ih => exact ih ((zIt _ _).trans hm) (qHy hl hm h0)
def zBy (m : List Int) : Int := zP (fun x => x) m
theorem qUg : ∀ (m : List Int) (i : Nat) (x : Int), i < m.length → zBy (m.set i x) = zBy m - m.getD i 0 + x
 | [], i, x, h => absurd h (Nat.not_lt_zero _)
 | y :: m, 0, x, _ => by
  show x + zBy m = y + zBy m - y + x
  omega
 | y :: m, i + 1, x, h => by
  show y + zBy (m.set i x) = y + zBy m - m.getD i 0 + x
  rw [qUg m i x (by simpa using h)]
  omega
theorem yGm : ∀ (s m : List Int), (∀ i ∈ s, 0 ≤ i ∧ i < (m.length : Int)) → zBy (jK s m) = zBy m - s.length
 | [], m, _ => by simp [jK]
 | i :: s, m, h => by
  have hi := h i (List.mem_cons_self ..)
  show zBy (jK s (m.set i.toNat (m.getD i.toNat 0 - 1))) = _
  rw [yGm s _ (fun x hx => by rw [List.length_set]; exact h x (List.mem_cons_of_mem _ hx)), qUg _ _ _ (by omega)]
  simp only [List.length_cons]
  omega
theorem qSf {B : BT} {l : List zB} : ∀ i ∈ zAu B l, 0 ≤ i ∧ i < (B.1.length : Int) := by
 intro i hi
 obtain ⟨x, hx, rfl⟩ := List.mem_map.1 hi
 have := List.mem_range.1 (List.mem_filter.1 hx).1
 omega
theorem yK7 : ∀ {m : List Int}, zEi m → 0 ≤ zBy m
 | [], _ => Int.le_refl 0
 | x :: m, h => by
  have h1 : 0 ≤ x := h 0
  have h2 := yK7 (m := m) (fun i => h (i + 1))
  show 0 ≤ x + zBy m
  omega
theorem yAl {B : BT} {l : List zB} (hl : ∀ q ∈ l, yM B.1.length q) : ∀ (N : Nat) (m : List Int), m.length = B.1.length → zEi m → zBy m ≤ N → ∃ f n, zBs B l m f n ∧ n ≤ N
 | N, m, hm, h0, hN => by
  by_cases c : zAu B (vN l m) = []
  ·exact ⟨m, 0, .stop c, Nat.zero_le _⟩
  ·have ht := yGm (zAu B (vN l m)) m (by rw [hm]; exact qSf)
   have hp : 0 < (zAu B (vN l m)).length := List.length_pos_iff.2 c
   have h1 := qHy hl hm h0
   have h2 := yK7 h1
   obtain ⟨N, rfl⟩ : ∃ x, N = x + 1 := ⟨N - 1, by omega⟩
   obtain ⟨f, n, h3, h4⟩ := yAl hl N _ ((zIt _ _).trans hm) h1 (by omega)
   exact ⟨f, n + 1, .step c h3, by omega⟩
theorem qYl (l : List zB) (many : List Int) : ∀ N, (zB6 l many N).length ≤ N
 | 0 => Nat.le_refl _
 | N + 1 => by
  unfold zB6
  rw [List.length_append]
  have := qYl l many N
  cases zDh l many N <;> simp <;> omega
theorem yTj (l : List zB) (i : Nat) (hi : i < l.length) (f : Int) : wT (l.take (i + 1)) f = wT (l.take i) f + (if (l.getD i pd).2.1 = f then 1 else 0) := by
 unfold wT
 rw [zQ5 _ _ _ pd hi, List.length_append]
 unfold vM
 by_cases c : (l.getD i pd).2.1 = f
 ·rw [if_pos c, vMm c]; rfl
 ·rw [if_neg c, vMn c]; rfl
def zA5 (l : List zB) (n : Nat) : List Int := (List.range n).map fun (i : Nat) => ((wT l i : Nat) : Int)
theorem vF9 (l : List zB) (i : Nat) : zA5 l (i + 1) = zA5 l i ++ [((wT l i : Nat) : Int)] := by
 unfold zA5
 rw [List.range_succ, List.map_append]; rfl
theorem zNf (l : List zB) (n : Nat) : (zA5 l n).length = n := by
 unfold zA5; simp
theorem qL1 : ∀ (s m : List Int) (i : Nat), m.getD i 0 - s.length ≤ (jK s m).getD i 0 ∧ (jK s m).getD i 0 ≤ m.getD i 0
 | [], m, i => by simp [jK]
 | x :: s, m, i => by
  have h := qL1 s (m.set x.toNat (m.getD x.toNat 0 - 1)) i
  rw [wI] at h
  have e : jK (x :: s) m = jK s (m.set x.toNat (m.getD x.toNat 0 - 1)) := rfl
  rw [e, List.length_cons]
  by_cases c : x.toNat = i ∧ x.toNat < m.length
  ·rw [if_pos c, c.1] at h
   rw [c.1]
   omega
  ·rw [if_neg c] at h
   omega
theorem yYl (s m : List Int) (i : Nat) (hi : i < s.length) : jK (s.take (i + 1)) m = (jK (s.take i) m).set (s.getD i 0).toNat ((jK (s.take i) m).getD (s.getD i 0).toNat 0 - 1) := by
 unfold jK
 rw [← zAo s i 0 hi, List.foldl_append]
 rfl
theorem qWk (g : Nat → Int) : ∀ n, zP (fun x => x) ((List.range n).map g) = zW g n
 | 0 => rfl
 | n + 1 => by
  rw [List.range_succ, List.map_append, zAm, qWk g n]
  show zW g n + (g n + 0) = zW g n + g n
  omega
theorem vH2 (l : List zB) (f : Int) : ((wT l f : Nat) : Int) = zP (fun p : zB => if p.2.1 = f then 1 else 0) l := by
 induction l with
 | nil => rfl
 | cons p l ih =>
  unfold wT vM at *
  show _ = (if p.2.1 = f then (1 : Int) else 0) + zP _ l
  rw [← ih, List.filter_cons]
  by_cases c : p.2.1 = f
  ·rw [if_pos c, vMm c, if_pos rfl, List.length_cons]; omega
  ·rw [if_neg c, vMn c, if_neg (by simp)]; omega
theorem vDn (l : List zB) (n : Nat) : zBy (zA5 l n) ≤ l.length := by
 unfold zBy zA5
 rw [qWk (fun i : Nat => ((wT l i : Nat) : Int)) n, zBb (h := fun j => zP (fun p : zB => if p.2.1 = (j : Int) then 1 else 0) l) (fun j _ => vH2 l j), zVl]
 have := (zJa (A := 1) (l := l) (g := fun p : zB => zW (fun j => if p.2.1 = (j : Int) then 1 else 0) n) (fun p _ => by
  by_cases c : 0 ≤ p.2.1
  ·obtain ⟨f, hf⟩ : ∃ f : Nat, p.2.1 = f := ⟨p.2.1.toNat, by omega⟩
   have e : zW (fun j => if p.2.1 = (j : Int) then (1 : Int) else 0) n = zW (fun j => if j = f then 1 else 0) n := zBb fun j _ => by
    rw [hf]
    by_cases d : j = f
    ·rw [if_pos d, if_pos (by omega)]
    ·rw [if_neg d, if_neg (by omega)]
   rw [e, zHv]
   split <;> omega
  ·have e : zW (fun j => if p.2.1 = (j : Int) then (1 : Int) else 0) n = zW (fun _ => 0) n := zBb fun j _ => if_neg (by omega)
   rw [e, qA4]
   omega)).2
 omega
theorem yF7 (l : List zB) (n i : Nat) : (zA5 l n).getD i 0 = if i < n then ((wT l i : Nat) : Int) else 0 := by
 unfold zA5
 by_cases c : i < n
 ·rw [if_pos c, List.getD_eq_getElem?_getD, List.getElem?_eq_getElem (by simpa using c)]
  simp
 ·rw [if_neg c, List.getD_eq_getElem?_getD, List.getElem?_eq_none (by simpa using c)]
  rfl
theorem vAb (l : List zB) (f : Int) : wT l f ≤ l.length := List.length_filter_le _ _
theorem qDy {l : List zB} (hl : l.length ≤ 1000) (n : Nat) : zEi (zA5 l n) ∧ ∀ i, (zA5 l n).getD i 0 ≤ 1000 := by
 refine ⟨fun i => ?_, fun i => ?_⟩
 ·rw [yF7]; split <;> omega
 ·rw [yF7]
  have := vAb l i
  split <;> omega
theorem yB0 {B : BT} {l : List zB} (hl : ∀ q ∈ l, yM B.1.length q) (h64 : l.length ≤ 64) (m : List Int) : vI B.1.length (vN l m) :=
 ⟨fun p hp => hl p ((zL4 l m).subset hp), by have := (zL4 l m).length_le; omega⟩
def vU (l : List zB) (t : Int) : List zB := l.filter (zA6 t)
theorem qCk {n : Nat} {l : List zB} {t : Int} (h : ∀ q ∈ l, yM n q) : ∀ q ∈ vU l t, yM n q := fun q hq => h q (List.mem_filter.1 hq).1
theorem zOx (l : List zB) (t : Int) : (vU l t).length ≤ l.length := List.length_filter_le _ _
theorem yHu {B : BT} (hb : qY B) {l : List zB} (hl : ∀ q ∈ l, yM B.1.length q) (h64 : l.length ≤ 64) (t : Int) :
  ∃ f n, zBs B (vU l t) (zA5 (vU l t) B.1.length) f n ∧ n ≤ (vU l t).length := by
 have h1 := qDy (l := vU l t) (by have := zOx l t; omega) B.1.length
 have h2 := vDn (vU l t) B.1.length
 exact yAl (qCk hl) (vU l t).length _ (zNf _ _) h1.1 (by omega)
def zD6 (l : List zB) (hs : List zB) : List zB := hs.foldl (fun l p => jD l p.1) l
theorem vAu (l : List zB) (id : Int) : (jD l id).length ≤ l.length ∧ List.Sublist (jD l id) l := by
 unfold jD zDw
 cases wG l id with
 | none => exact ⟨Nat.le_refl _, List.Sublist.refl _⟩
 | some x => exact ⟨(zFg l x).length_le, zFg l x⟩
theorem qFs : ∀ (hs l : List zB), (zD6 l hs).length ≤ l.length ∧ List.Sublist (zD6 l hs) l
 | [], l => ⟨Nat.le_refl _, List.Sublist.refl _⟩
 | p :: hs, l => by
  obtain ⟨h1, h2⟩ := qFs hs (jD l p.1)
  obtain ⟨h3, h4⟩ := vAu l p.1
  exact ⟨Nat.le_trans h1 h3, h2.trans h4⟩
theorem vI0 (l hs : List zB) (i : Nat) (hi : i < hs.length) : zD6 l (hs.take (i + 1)) = jD (zD6 l (hs.take i)) (hs.getD i pd).1 := by
 unfold zD6
 rw [← zAo hs i pd hi, List.foldl_append]
 rfl
def zT3 (B : BT) (l hs : List zB) (r : List qM × List (List Int) × List Int × List (List Int) × Int) : (List (Int × Int × Int)) × (List (List Int)) × (List Int) × (List (List Int)) × (List zB) × (List zB) :=
 bif !(decide (r.2.2.2.2 = 0)) then (B.1, B.2.1, B.2.2.1, B.2.2.2, l, []) else (r.1, r.2.1, r.2.2.1, r.2.2.2.1, zD6 l hs, hs)
theorem qHk {k : Nat} {l : List zB} (hk : l.length < k) (hl : qZ l) {many : List Int} (h0 : zEi many) (hm : ∀ i, many.getD i 0 ≤ 1000) (hml : many.length ≤ 1000) : zNh k l many = some (vN l many) := by
 unfold qZ at hl
 unfold zNh qB4 qFc
 rw [vR (by omega) (by omega)]
 simp only [vMs, vMr]
 obtain ⟨s', h1, h2, h3, h4⟩ := vO (L := fun n i (s : List Int × List zB) => zJ5 k n l l.length i s.1 s.2) (N := l.length) (fun s => s) (fun i s => s.1.length = many.length ∧ (∀ f : Nat, f < many.length → s.1.getD f 0 = if many.getD f 0 ≤ (wT (l.take i) f : Nat) then 0 else many.getD f 0 - (wT (l.take i) f : Nat)) ∧ s.2 = zB6 l many i) (fun n s _ => by
  show zLb k _ l l.length l.length s.1 s.2 = _
  unfold zLb
  simp only [zY, vMn (Nat.lt_irrefl _), vMt]) (fun n i s hi hs => by
  obtain ⟨s1, s2, s3⟩ := hs
  have hsl : s.2.length ≤ i := by rw [s3]; exact qYl l many i
  show ∃ s', zLb k _ l l.length i s.1 s.2 = _ ∧ _
  unfold zLb qHo
  simp only [qH, qO hi (show l.length < 9223372036854775808 by omega), zY, vMu, vMm hi, vMs, zCq (show s.2.length ≤ 1000 by omega)]
  have hcs := fun f => yTj l i hi f
  have hno : ∀ f : Nat, f < many.length → (l.getD i pd).2.1 ≠ (f : Int) → (if many.getD f 0 ≤ (wT (l.take (i + 1)) f : Nat) then (0 : Int) else many.getD f 0 - (wT (l.take (i + 1)) f : Nat)) = if many.getD f 0 ≤ (wT (l.take i) f : Nat) then 0 else many.getD f 0 - (wT (l.take i) f : Nat) := by
   intro f hf hne
   rw [hcs f, if_neg hne, Nat.add_zero]
  have skip : zDh l many i = false → (∀ f : Nat, f < many.length → (l.getD i pd).2.1 = (f : Int) → many.getD f 0 ≤ (wT (l.take i) f : Nat)) → (s.1.length = many.length ∧ (∀ f : Nat, f < many.length → s.1.getD f 0 = if many.getD f 0 ≤ (wT (l.take (i + 1)) f : Nat) then 0 else many.getD f 0 - (wT (l.take (i + 1)) f : Nat)) ∧ s.2 = zB6 l many (i + 1)) := by
   intro hh hz
   refine ⟨s1, fun f hf => ?_, ?_⟩
   ·by_cases c : (l.getD i pd).2.1 = (f : Int)
    ·have := hz f hf c
     rw [s2 f hf, if_pos this, hcs f, if_pos c, if_pos (by omega)]
    ·rw [hno f hf c, s2 f hf]
   ·show _ = zB6 l many i ++ _
    rw [hh, s3]; simp
  cases e1 : decide ((l.getD i pd).2.1 < 0) with
  | true =>
   refine ⟨s, rfl, skip ?_ ?_⟩
   ·unfold zDh
    rw [vMq] at e1
    rw [vMn (show ¬ (l.getD i pd).2.1 ≥ 0 by omega)]; rfl
   ·intro f hf c
    rw [vMq] at e1
    omega
  | false =>
   cases e2 : decide ((l.getD i pd).2.1 ≥ ((s.1.length : Nat) : Int)) with
   | true =>
    refine ⟨s, rfl, skip ?_ ?_⟩
    ·unfold zDh
     rw [vMq] at e2
     rw [vMn (show ¬ (l.getD i pd).2.1 < (many.length : Int) by omega), Bool.and_false]; rfl
    ·intro f hf c
     rw [vMq] at e2
     omega
   | false =>
    rw [decide_eq_false_iff_not] at e1 e2
    obtain ⟨f, hf⟩ : ∃ f : Nat, (l.getD i pd).2.1 = f := ⟨(l.getD i pd).2.1.toNat, by omega⟩
    have hfl : f < many.length := by omega
    have hf' : (l.getD i (0, (0, (0, (0, (0, (0, 0))))))).2.1 = f := hf
    simp only [vMt, hf', qH, vMu, s1, vMm hfl, vMs]
    have hat : zDh l many i = decide (((wT (l.take i) f : Nat) : Int) < many.getD f 0) := by
     unfold zDh
     rw [hf, vMm (show (f : Int) ≥ 0 by omega), vMm (show (f : Int) < (many.length : Int) by omega), vMu]
     rfl
    have hval := s2 f hfl
    cases e3 : decide (s.1.getD f 0 < 1) with
    | true =>
     rw [vMq, hval] at e3
     have hle : many.getD f 0 ≤ (wT (l.take i) f : Nat) := by
      by_cases c : many.getD f 0 ≤ (wT (l.take i) f : Nat)
      ·exact c
      ·rw [if_neg c] at e3; omega
     refine ⟨s, rfl, skip (by rw [hat]; exact vMn (by omega)) ?_⟩
     intro g hg c
     have : g = f := by omega
     subst this
     exact hle
    | false =>
     rw [decide_eq_false_iff_not] at e3
     have hgt : ¬ many.getD f 0 ≤ (wT (l.take i) f : Nat) := by
      intro c
      rw [hval, if_pos c] at e3
      omega
     rw [if_neg hgt] at hval
     have hm' := hm f
     have hw : zA (s.1.getD f 0 - 1) = s.1.getD f 0 - 1 := zU (by omega) (by omega)
     refine ⟨(s.1.set f (s.1.getD f 0 - 1), s.2 ++ [l.getD i pd]), ?_, ?_, ?_, ?_⟩
     ·simp only [vMt, vMr, vMs, hw]
     ·rw [List.length_set]; exact s1
     ·intro g hg
      rw [wI]
      by_cases c : f = g
      ·subst c
       rw [if_pos ⟨rfl, by omega⟩, hcs f, if_pos hf, hval]
       by_cases d : many.getD f 0 ≤ ((wT (l.take i) f + 1 : Nat) : Int)
       ·rw [if_pos d]; omega
       ·rw [if_neg d]; omega
      ·rw [if_neg (fun e => c e.1), hno g hg (by omega)]
       exact s2 g hg
     ·show s.2 ++ [l.getD i pd] = zB6 l many i ++ _
      rw [hat, vMm (by omega), s3]; rfl) (s := (many, [])) hk ⟨rfl, fun f hf => by
   have : (wT (l.take 0) f : Nat) = 0 := rfl
   have h0f := h0 f
   rw [this]
   by_cases c : many.getD f 0 ≤ ((0 : Nat) : Int)
   ·rw [if_pos c]
    show many.getD f 0 = 0
    omega
   ·rw [if_neg c]
    show many.getD f 0 = _
    omega, rfl⟩
 have h1' : zJ5 k k l l.length 0 many [] = some s' := h1
 rw [h1']
 simp only [vMr, h4]
 rfl
theorem qUb {k : Nat} {l : List zB} (hk : l.length < k) (hl : qZ l) (f : Int) : zP7 k l f = some (l.filter (vM f)) := by
 unfold zP7 qPk
 have := zRj pd (L := fun n i s => zO9 k n l l.length i f s) (vM f) id (fun n s => by
  show zKr k _ l l.length l.length f s = _
  unfold zKr
  simp only [zY, vMn (Nat.lt_irrefl _), vMt]; rfl) (fun n i s hi hs => by
  show zKr k _ l l.length i f s = _
  unfold zKr qB7
  unfold qZ at hl
  simp only [qH, qO hi (show l.length < 9223372036854775808 by omega), zY, vMu, vMm hi, vMs, zCq (show s.length ≤ 1000 by omega)]
  unfold vM
  cases h1 : decide ((l.getD i pd).2.1 = f) <;> rfl) hk
 rw [this]
 rfl
theorem vEv {k : Nat} {B : BT} {l : List zB} (hk : l.length < k) (hl : qZ l) (hn : B.1.length < k) (hn' : B.1.length ≤ 1000) (s7 : Int) :
  zHi k k s7 B.1.length 0 B.1 B.2.1 B.2.2.1 B.2.2.2 [] l = some (s7, B.1, B.2.1, B.2.2.1, B.2.2.2, zA5 l B.1.length, l) := by
 obtain ⟨s', h1, h2⟩ := vO (L := fun n i (s : List Int) => zHi k n s7 B.1.length i B.1 B.2.1 B.2.2.1 B.2.2.2 s l) (N := B.1.length) (fun s => (s7, B.1, B.2.1, B.2.2.1, B.2.2.2, s, l)) (fun i s => s = zA5 l i) (fun n s _ => by
  show zLj k _ s7 B.1.length B.1.length B.1 B.2.1 B.2.2.1 B.2.2.2 s l = _
  unfold zLj
  simp only [zY, vMn (Nat.lt_irrefl _), vMt]) (fun n i s hi hs => by
  refine ⟨_, ?_, (vF9 l i).symm⟩
  show zLj k _ s7 B.1.length i B.1 B.2.1 B.2.2.1 B.2.2.2 s l = _
  unfold zLj
  have hr : qR (s.length + 1) 8 = true := by rw [hs, zNf]; exact vR (by omega) (by omega)
  simp only [zY, vMm hi, vMs, qUb hk hl, vMr, hr, qO hi (show B.1.length < 9223372036854775808 by omega)]
  rw [hs]
  rfl) (s := []) hn rfl
 exact h1.trans (by rw [h2])
theorem yQx {k : Nat} {B : BT} {l : List zB} {s m : List Int} (hk : s.length < k) (hs : s.length ≤ 1000) (hin : ∀ x ∈ s, 0 ≤ x ∧ x < (m.length : Int)) (h0 : zEi m) (hm : ∀ i, m.getD i 0 ≤ 1000) (s7 : Int) :
  zMj k k s7 s.length 0 B.1 B.2.1 B.2.2.1 B.2.2.2 m l s = some (s7, B.1, B.2.1, B.2.2.1, B.2.2.2, jK s m, l) := by
 obtain ⟨s', h1, h2⟩ := vO (L := fun n i (r : List Int) => zMj k n s7 s.length i B.1 B.2.1 B.2.2.1 B.2.2.2 r l s) (N := s.length) (fun r => (s7, B.1, B.2.1, B.2.2.1, B.2.2.2, r, l)) (fun i r => r = jK (s.take i) m) (fun n r _ => by
  show zOj k _ s7 s.length s.length B.1 B.2.1 B.2.2.1 B.2.2.2 r l s = _
  unfold zOj
  simp only [zY, vMn (Nat.lt_irrefl _), vMt]) (fun n i r hi hr => by
  refine ⟨_, ?_, (yYl s m i hi).symm⟩
  show zOj k _ s7 s.length i B.1 B.2.1 B.2.2.1 B.2.2.2 r l s = _
  unfold zOj
  obtain ⟨b1, b2⟩ := hin _ (wH (d := 0) hi)
  have hrl : r.length = m.length := by rw [hr, zIt]
  have hb : zE (s.getD i 0) r.length = true := zZ8 b1 (by omega)
  have hbd := qL1 (s.take i) m (s.getD i 0).toNat
  have h0' := h0 (s.getD i 0).toNat
  have hm' := hm (s.getD i 0).toNat
  have hlt : (s.take i).length ≤ s.length := List.length_take_le' _ _
  have hw : zA (r.getD (s.getD i 0).toNat 0 - 1) = r.getD (s.getD i 0).toNat 0 - 1 := by
   rw [hr]
   exact zU (by omega) (by omega)
  simp only [zY, qH, vMu, vMm hi, vMs, hb, hw, qO hi (show s.length < 9223372036854775808 by omega)]
  rw [hr]) (s := m) hk rfl
 have := h1.trans (by rw [h2, List.take_length])
 exact this
theorem ySe {k : Nat} (hk : 100 < k) {B : BT} (hb : qY B) {l : List zB} (hl : ∀ q ∈ l, yM B.1.length q) (h64 : l.length ≤ 64) {m f : List Int} {n : Nat} (h : zBs B l m f n) :
  ∀ (N : Nat) (s7 : Int), m.length = B.1.length → zEi m → (∀ i, m.getD i 0 ≤ 1000) → n < N → 0 ≤ s7 → s7 + n < 1000000 →
  zRl k N s7 B.1 B.2.1 B.2.2.1 B.2.2.2 m l = some (s7 + n + 1, f) := by
 induction h with
 | @stop m h =>
  intro N s7 hm h0 h1 hn hs hs'
  obtain ⟨N, rfl⟩ : ∃ x, N = x + 1 := ⟨N - 1, by omega⟩
  have hn6 := hb.n6
  show zM7 k _ s7 B.1 B.2.1 B.2.2.1 B.2.2.2 m l = _
  unfold zM7
  have hS := qP0 hk hb (yB0 hl h64 m)
  have hS' : zIa k B.1 B.2.1 B.2.2.1 B.2.2.2 (vN l m) = some (zAu B (vN l m)) := hS
  rw [qHk (by omega) (show qZ l by show l.length ≤ 1000; omega) h0 h1 (by omega)]
  simp only [vMr]
  rw [hS', h]
  simp only [vMr]
  have w : zA (s7 + 1) = s7 + 1 := zU (by omega) (by omega)
  rw [w]
  simp
 | @step m f n h h' ih =>
  intro N s7 hm h0 h1 hn hs hs'
  obtain ⟨N, rfl⟩ : ∃ x, N = x + 1 := ⟨N - 1, by omega⟩
  have hn6 := hb.n6
  show zM7 k _ s7 B.1 B.2.1 B.2.2.1 B.2.2.2 m l = _
  unfold zM7
  have hS := qP0 hk hb (yB0 hl h64 m)
  have hS' : zIa k B.1 B.2.1 B.2.2.1 B.2.2.2 (vN l m) = some (zAu B (vN l m)) := hS
  rw [qHk (by omega) (show qZ l by show l.length ≤ 1000; omega) h0 h1 (by omega)]
  simp only [vMr]
  rw [hS']
  simp only [vMr]
  have w : zA (s7 + 1) = s7 + 1 := zU (by omega) (by omega)
  have hne : decide ((((zAu B (vN l m)).length : Nat) : Int) = 0) = false := vMn (by
   have := List.length_pos_iff.2 h
   omega)
  have hsl : (zAu B (vN l m)).length ≤ B.1.length := by
   unfold zAu zLx
   rw [List.length_map]
   have := List.length_filter_le (fun i => wV B.1 B.2.1 B.2.2.1 B.2.2.2 (vN l m) i) (List.range B.1.length)
   rwa [List.length_range] at this
  rw [hne, w]
  simp only [vMt]
  rw [yQx (by omega) (by omega) (by rw [hm]; exact qSf) h0 h1]
  simp only [vMr]
  have hd0 := qHy hl hm h0
  have := ih N (s7 + 1) ((zIt _ _).trans hm) hd0 (fun i => by have := (qL1 (zAu B (vN l m)) m i).2; have := h1 i; omega) (by omega) (by omega) (by omega)
  rw [this]
  congr 2
  omega
theorem yYj {k : Nat} (hk : 100 < k) {B : BT} (hb : qY B) {l : List zB} (hl : ∀ q ∈ l, yM B.1.length q) (h64 : l.length ≤ 64) (t : Int) {f : List Int} {n : Nat} (hn : n ≤ l.length) (h : zBs B (vU l t) (zA5 (vU l t) B.1.length) f n) :
  zYq k B.1 B.2.1 B.2.2.1 B.2.2.2 l t = some (f, ((n + 1 : Nat) : Int)) := by
 have hn6 := hb.n6
 have hr := zOx l t
 have h1 := qDy (l := vU l t) (by omega) B.1.length
 unfold zYq
 rw [qL3 (by omega) (by show l.length ≤ 1000; omega)]
 simp only [vMr]
 have e : zHi k k 0 B.1.length 0 B.1 B.2.1 B.2.2.1 B.2.2.2 [] (l.filter (zA6 t)) = _ := vEv (k := k) (B := B) (l := vU l t) (by omega) (by show (vU l t).length ≤ 1000; omega) (by omega) (by omega) 0
 rw [e]
 simp only [vMr]
 rw [ySe hk hb (qCk hl) (by omega) h k 0 (zNf _ _) h1.1 h1.2 (by omega) (by omega) (by omega)]
 simp
theorem yZj {k : Nat} {C : BT} {l hs : List zB} (hl : l.length < k) (hl' : l.length ≤ 1000) (hk : hs.length < k) (hh : hs.length ≤ 1000) :
  zHe k k l hs.length 0 C.1 C.2.1 C.2.2.1 C.2.2.2 hs = some (zD6 l hs, C.1, C.2.1, C.2.2.1, C.2.2.2, hs) := by
 obtain ⟨s', h1, h2⟩ := vO (L := fun n i (s : List zB) => zHe k n s hs.length i C.1 C.2.1 C.2.2.1 C.2.2.2 hs) (N := hs.length) (fun s => (s, C.1, C.2.1, C.2.2.1, C.2.2.2, hs)) (fun i s => s = zD6 l (hs.take i)) (fun n s _ => by
  show zM8 k _ s hs.length hs.length C.1 C.2.1 C.2.2.1 C.2.2.2 hs = _
  unfold zM8
  simp only [zY, vMn (Nat.lt_irrefl _), vMt]) (fun n i s hi hr => by
  refine ⟨_, ?_, (vI0 l hs i hi).symm⟩
  show zM8 k _ s hs.length i C.1 C.2.1 C.2.2.1 C.2.2.2 hs = _
  unfold zM8
  have hsl := (qFs (hs.take i) l).1
  rw [← hr] at hsl ⊢
  simp only [zY, qH, vMu, vMm hi, vMs, zIn (show s.length < k by omega) (show qZ s by show s.length ≤ 1000; omega), vMr, qO hi (show hs.length < 9223372036854775808 by omega)]
  rfl) (s := l) hk rfl
 have := h1.trans (by rw [h2, List.take_length])
 exact this
theorem qX7 {k : Nat} (hk : 100 < k) {B : BT} (hb : qY B) {l : List zB} (hl : ∀ q ∈ l, yM B.1.length q) (h64 : l.length ≤ 64) (t : Int) {f : List Int} {n : Nat} (hn : n ≤ l.length) (h : zBs B (vU l t) (zA5 (vU l t) B.1.length) f n)
  {r : List qM × List (List Int) × List Int × List (List Int) × Int} (hr : zDu k B.1 B.2.1 B.2.2.1 B.2.2.2 (vN (vU l t) f) = some r) : zKb k B.1 B.2.1 B.2.2.1 B.2.2.2 l t = some (zT3 B l (vN (vU l t) f) r) := by
 have hn6 := hb.n6
 have hrl := zOx l t
 have h1 := qDy (l := vU l t) (by omega) B.1.length
 have hle := h.le (zNf _ _)
 have h0 := h.nonneg (qCk hl) (zNf _ _) h1.1
 have hfl : f.length = B.1.length := hle.1.trans (zNf _ _)
 have hf : ∀ i, f.getD i 0 ≤ 1000 := fun i => by
  by_cases c : i < (zA5 (vU l t) B.1.length).length
  ·have := hle.2 i c
   have := h1.2 i
   omega
  ·rw [List.getD_eq_getElem?_getD, List.getElem?_eq_none (by have := hle.1; omega)]
   show (0 : Int) ≤ 1000
   omega
 have hhl := (zL4 (vU l t) f).length_le
 unfold zKb
 rw [yYj hk hb hl h64 t hn h, qL3 (by omega) (by show l.length ≤ 1000; omega)]
 simp only [vMr]
 have e : zNh k (l.filter (zA6 t)) f = _ := qHk (k := k) (l := vU l t) (by omega) (by show (vU l t).length ≤ 1000; omega) h0 hf (by omega)
 rw [e]
 simp only [vMr]
 rw [hr]
 simp only [vMr]
 unfold zT3
 cases decide (r.2.2.2.2 = 0) with
 | false => rfl
 | true =>
  simp only [vMw, vMt]
  have e2 : zHe k k l ((List.length (vN (vU l t) f) : Nat) : Int) 0 r.1 r.2.1 r.2.2.1 r.2.2.2.1 (vN (vU l t) f) = _ := yZj (C := (r.1, r.2.1, r.2.2.1, r.2.2.2.1)) (by omega) (by omega) (by omega) (by omega)
  rw [e2]
  rfl
theorem yPi {l : List zB} {x : Nat} (hx : x < l.length) : List.Perm (l.getD x pd :: yU l x) l := by
 unfold yU
 have h : List.Perm (l.getD x pd :: (l.take x ++ l.drop (x + 1))) (l.take x ++ l.getD x pd :: l.drop (x + 1)) := List.perm_middle.symm
 have e := zOy l x pd hx
 rw [← e] at h
 exact h
theorem zXh {l : List zB} (hd : qT l) {p : zB} (hp : p ∈ l) : List.Perm (p :: jD l p.1) l := by
 obtain ⟨x, hx⟩ := zZg hp
 have h := zCu hx
 have e : l.getD x pd = p := hd.eq_of (wH h.1) hp h.2
 unfold jD zDw
 rw [hx]
 have := yPi h.1
 rw [e] at this
 exact this
theorem Ran.perm {k : Nat} {t : Int} {B C : BT} {l done m : List zB} (h : Ran k t B l done C m) (hd : qT l) : List.Perm (done ++ m) l := by
 induction h with
 | stop _ => exact List.Perm.refl _
 | step h _ ih =>
  have hp := zTw (zRs h).1
  exact ((ih (List.Pairwise.sublist (zMv hp).2 hd)).cons _).trans (zXh hd hp)
theorem jQ.perm {k : Nat} {t : Int} {B C : BT} {l done m : List zB} (h : jQ k t B l done C m) (hd : qT l) : List.Perm (done ++ m) l := by
 induction h with
 | stop _ => exact List.Perm.refl _
 | step h _ ih =>
  obtain ⟨hp, hq, hdu, _⟩ := zW9 h
  obtain ⟨h1, h2⟩ := zW3 hd hp hq hdu
  have hd' : qT (jD _ _) := List.Pairwise.sublist (zMv hp).2 hd
  have hq' := qJ4 hp hq (qU5 hd hp hq hdu)
  exact (((ih (List.Pairwise.sublist h2 hd)).cons _).cons _).trans (((zXh hd' hq').cons _).trans (zXh hd hp))
theorem Ran.final {k : Nat} {t : Int} {B C : BT} {l done m : List zB} (h : Ran k t B l done C m) : wE k C (yY m t) = none := by
 induction h with
 | stop h => exact h
 | step _ _ ih => exact ih
theorem jQ.final {k : Nat} {t : Int} {B C : BT} {l done m : List zB} (h : jQ k t B l done C m) : zAf k C m t = none := by
 induction h with
 | stop h => exact h
 | step _ _ ih => exact ih
theorem qT.perm {l m : List zB} (h : qT l) (hp : List.Perm m l) : qT m := (List.Perm.pairwise_iff (R := fun p q : zB => p.1 ≠ q.1) (fun hab => Ne.symm hab) hp.symm).1 h
inductive zCe (k : Nat) (t : Int) : BT → List zB → List zB → BT → List zB → Prop
 | stop {B C : BT} {l m d : List zB} (h1 : Ran k t B l d C m) (h2 : zAf k C m t = none) : zCe k t B l d C m
 | step {B C D E : BT} {l m n o d e f : List zB} (h1 : Ran k t B l d C m) (h2 : jQ k t C m e D n) (ne : e ≠ []) (h' : zCe k t D n f E o) : zCe k t B l (d ++ e ++ f) E o
theorem zCe.perm {k : Nat} {t : Int} {B C : BT} {l done m : List zB} (h : zCe k t B l done C m) (hd : qT l) : List.Perm (done ++ m) l := by
 induction h with
 | stop h1 _ => exact h1.perm hd
 | @step B C D E l m n o d e f h1 h2 ne h' ih =>
  have p1 := h1.perm hd
  have hd1 := hd.perm p1
  have hm : qT m := (List.pairwise_append.1 hd1).2.1
  have p2 := h2.perm hm
  have hn : qT n := (List.pairwise_append.1 (hm.perm p2)).2.1
  have p3 := ih hn
  have e1 : d ++ e ++ f ++ o = d ++ (e ++ (f ++ o)) := by simp
  rw [e1]
  exact ((p3.append_left e).append_left d).trans ((p2.append_left d).trans p1)
theorem zCe.final {k : Nat} {t : Int} {B C : BT} {l done m : List zB} (h : zCe k t B l done C m) : wE k C (yY m t) = none ∧ zAf k C m t = none := by
 induction h with
 | stop h1 h2 => exact ⟨h1.final, h2⟩
 | step _ _ _ _ ih => exact ih
theorem Ran.none {k : Nat} {t : Int} {B C : BT} {l done m : List zB} (h : Ran k t B l done C m) (hn : wE k B (yY l t) = none) : done = [] ∧ C = B ∧ m = l := by
 cases h with
 | stop _ => exact ⟨rfl, rfl, rfl⟩
 | step h _ => rw [hn] at h; cases h
theorem jQ.none {k : Nat} {t : Int} {B C : BT} {l done m : List zB} (h : jQ k t B l done C m) (hn : zAf k B l t = none) : done = [] ∧ C = B ∧ m = l := by
 cases h with
 | stop _ => exact ⟨rfl, rfl, rfl⟩
 | step h _ => rw [hn] at h; cases h
theorem jQ.nil {k : Nat} {t : Int} {B C : BT} {l m : List zB} (h : jQ k t B l [] C m) : zAf k B l t = Option.none ∧ C = B ∧ m = l := by
 cases h with
 | stop h => exact ⟨h, rfl, rfl⟩
theorem zCe.none {k : Nat} {t : Int} {B C : BT} {l done m : List zB} (h : zCe k t B l done C m) (h1 : wE k B (yY l t) = Option.none) (h2 : zAf k B l t = Option.none) : done = [] ∧ C = B ∧ m = l := by
 cases h with
 | stop g1 _ => exact g1.none h1
 | step g1 g2 ne _ =>
  obtain ⟨rfl, rfl, rfl⟩ := g1.none h1
  obtain ⟨rfl, _, _⟩ := g2.none h2
  exact absurd rfl ne
theorem qQ8 {k : Nat} (hk : 200 ≤ k) (t : Int) : ∀ (n : Nat) (B : BT) (l r : List zB), qY B → qT l → l.length ≤ 100 → l.length < n → r.length + l.length ≤ 900 →
  ∃ (C : BT) (m done : List zB), zPz k n t l B.1 B.2.1 B.2.2.1 B.2.2.2 r = some (m, C.1, C.2.1, C.2.2.1, C.2.2.2, r ++ done) ∧ zCe k t B l done C m ∧ qY C ∧ C.1.length = B.1.length ∧ List.Sublist m l
 | 0, _, _, _, _, _, _, h, _ => absurd h (Nat.not_lt_zero _)
 | n + 1, B, l, r, hb, hd, hl, hn, hr => by
  obtain ⟨C, m, d, f1, f2, f3, f4, f5⟩ := yTk hk hb hd hl t
  have p1 := f2.perm hd
  have l1 := p1.length_eq
  rw [List.length_append] at l1
  have hm : qT m := List.Pairwise.sublist f5 hd
  obtain ⟨D, o, e, g1, g2, g3, g4, g5⟩ := vGt hk f3 hm (by omega) t
  have p2 := g2.perm hm
  have l2 := p2.length_eq
  rw [List.length_append] at l2
  have r1 : qR (r.length + d.length) 56 = true := vR (by omega) (by omega)
  have r2 : qR ((r ++ d).length + e.length) 56 = true := vR (by rw [List.length_append]; omega) (by rw [List.length_append]; omega)
  show ∃ C' m' done', zVz k _ t l B.1 B.2.1 B.2.2.1 B.2.2.2 r = _ ∧ _
  unfold zVz
  rw [f1]
  simp only [vMr]
  rw [g1]
  simp only [vMr, r1, r2, vMs]
  cases e with
  | nil =>
   obtain ⟨h1, h2, h3⟩ := g2.nil
   subst h2; subst h3
   refine ⟨D, o, d, ?_, .stop f2 h1, f3, f4, f5⟩
   simp
  | cons p e =>
   have hlt : o.length + (e.length + 1) = m.length := by simp at l2; omega
   obtain ⟨E, q, f, k1, k2, k3, k4, k5⟩ := qQ8 hk t n D o (r ++ d ++ (p :: e)) g3 (List.Pairwise.sublist g5 hm) (by omega) (by omega) (by simp; omega)
   refine ⟨E, q, d ++ (p :: e) ++ f, ?_, .step f2 g2 (by simp) k2, k3, k4.trans (g4.trans f4), k5.trans (g5.trans f5)⟩
   have e1 : decide ((((p :: e).length : Nat) : Int) = 0) = false := vMn (by simp; omega)
   rw [e1]
   simp only [vMt]
   rw [k1]
   simp
theorem zVd {k : Nat} (hk : 200 ≤ k) {B : BT} (hb : qY B) {l : List zB} (hd : qT l) (hl : l.length ≤ 100) (t : Int) :
  ∃ (C : BT) (m done : List zB), zPw k B.1 B.2.1 B.2.2.1 B.2.2.2 l t = some (C.1, C.2.1, C.2.2.1, C.2.2.2, m, done) ∧ zCe k t B l done C m ∧ qY C ∧ C.1.length = B.1.length ∧ List.Sublist m l := by
 obtain ⟨C, m, done, h1, h3⟩ := qQ8 hk t k B l [] hb hd hl (by omega) (by simp; omega)
 refine ⟨C, m, done, ?_, h3⟩
 unfold zPw
 rw [h1]
 rfl
theorem yKs : ∀ (hs l : List zB), qT l → qT hs → (∀ q ∈ hs, q ∈ l) → List.Perm (hs ++ zD6 l hs) l
 | [], l, _, _, _ => List.Perm.refl _
 | p :: hs, l, hd, hh, hin => by
  have hp := hin p (List.mem_cons_self ..)
  obtain ⟨h1, h2⟩ := zMv hp
  have hc := List.pairwise_cons.1 hh
  have := yKs hs (jD l p.1) (List.Pairwise.sublist h2 hd) hc.2 (fun q hq => qJ4 hp (hin q (List.mem_cons_of_mem _ hq)) (fun e => hc.1 q hq e.symm))
  exact (this.cons p).trans (zXh hd hp)
theorem yXr {k : Nat} (hk : 100 < k) {B : BT} (hb : qY B) : zDu k B.1 B.2.1 B.2.2.1 B.2.2.2 [] = some (B.1, B.2.1, B.2.2.1, B.2.2.2, 0) := by
  obtain ⟨r, h1, h3⟩ := zYu hk hb (l := []) (by simp)
  have hrow : vI B.1.length [] := ⟨fun p hp => (by cases hp), by simp⟩
  obtain ⟨a', p', h4, h5⟩ := h3.1 hrow
  have hid : zFw B.1.length B.1 B.2.2.2 [] B.1 B.2.2.2 := {
    al := rfl
    acct := fun i hi => by
      have hc := hb.acct i hi
      have hr : 0 ≤ (B.1.getD i ad).2.2 := by
        have := hb.nums.res i hi
        exact this.1
      show B.1.getD i ad = ((B.1.getD i ad).1 + 0, (B.1.getD i ad).2.1, vS (B.1.getD i ad).2.2 0)
      have e : vS (B.1.getD i ad).2.2 0 = (B.1.getD i ad).2.2 := by
        unfold vS
        split <;> omega
      rw [e, Int.add_zero]
    pl := hb.pl
    pr := hb.pr
    cell := fun i hi j hj => by show _ = _ + 0 - 0; omega }
  obtain ⟨e1, e2⟩ := h4.same hid
  subst e1; subst e2
  rw [zPe.2 hb] at h5
  rw [h1, h5]
  rfl
theorem yCr {k : Nat} (hk : 200 ≤ k) {B : BT} (hb : qY B) {l : List zB} (hd : qT l) (hl : ∀ q ∈ l, yM B.1.length q) (h64 : l.length ≤ 64) (t : Int) :
  ∃ (C : BT) (m done : List zB), zKb k B.1 B.2.1 B.2.2.1 B.2.2.2 l t = some (C.1, C.2.1, C.2.2.1, C.2.2.2, m, done) ∧ qY C ∧ C.1.length = B.1.length ∧ List.Sublist m l ∧ List.Perm (done ++ m) l ∧ (done = [] → C = B ∧ m = l) := by
 obtain ⟨f, n, h, hn⟩ := yHu hb hl h64 t
 have hrl := zOx l t
 have hsub := zL4 (vU l t) f
 have hhl := hsub.length_le
 obtain ⟨r, h1, h2, h3⟩ := zSa (k := k) (by omega) hb (l := vN (vU l t) f) (by omega)
 have hs := zQ3 hb h3
 have g1 := qX7 (k := k) (by omega) hb hl h64 t (by omega) h h1
 unfold zT3 at g1
 cases c : decide (r.2.2.2.2 = 0) with
 | false =>
  rw [c] at g1
  exact ⟨B, l, [], g1, hb, rfl, List.Sublist.refl _, List.Perm.refl _, fun _ => ⟨rfl, rfl⟩⟩
 | true =>
  rw [c] at g1
  have hsl : List.Sublist (vN (vU l t) f) l := hsub.trans List.filter_sublist
  have hal : r.1.length = B.1.length := by
   by_cases c' : vI B.1.length (vN (vU l t) f)
   ·obtain ⟨a', p', x, e⟩ := h3.1 c'
    cases hi : isB a' B.2.1 B.2.2.1 p' with
    | false => rw [hi] at e; subst e; rfl
    | true => rw [hi] at e; subst e; exact x.al
   ·rw [h3.2 c']
  refine ⟨(r.1, r.2.1, r.2.2.1, r.2.2.2.1), zD6 l (vN (vU l t) f), vN (vU l t) f, g1, hs.2.1, hal, (qFs _ _).2, yKs _ _ hd (List.Pairwise.sublist hsl hd) (fun q hq => hsl.subset hq), fun e => ?_⟩
  rw [e] at h1 ⊢
  rw [yXr (by omega) hb] at h1
  cases h1
  exact ⟨rfl, rfl⟩
theorem yL9 {k : Nat} (hk : 200 ≤ k) {B : BT} (hb : qY B) {l : List zB} (hd : qT l) (hl : ∀ q ∈ l, yM B.1.length q) (h64 : l.length ≤ 64) (t : Int) (all : Bool) :
  ∃ (C : BT) (m done : List zB), zHx k B.1 B.2.1 B.2.2.1 B.2.2.2 l t all = some (C.1, C.2.1, C.2.2.1, C.2.2.2, m, done) ∧ qY C ∧ C.1.length = B.1.length ∧ List.Sublist m l ∧ List.Perm (done ++ m) l ∧ wE k C (yY m t) = none ∧ zAf k C m t = none := by
 obtain ⟨C, m, d, f1, f2, f3, f4, f5⟩ := zVd hk hb hd (by omega) t
 have p1 := f2.perm hd
 have l1 := p1.length_eq
 rw [List.length_append] at l1
 unfold zHx
 rw [f1]
 simp only [vMr]
 cases all with
 | false => exact ⟨C, m, d, rfl, f3, f4, f5, p1, f2.final⟩
 | true =>
  simp only [vMw, vMt]
  have hm : qT m := List.Pairwise.sublist f5 hd
  obtain ⟨D, n, x, g1, g2, g3, g4, g5, g6⟩ := yCr hk f3 hm (fun q hq => by rw [f4]; exact hl q (f5.subset hq)) (by omega) t
  have l2 := g5.length_eq
  rw [List.length_append] at l2
  rw [g1]
  simp only [vMr]
  cases x with
  | nil =>
   obtain ⟨rfl, rfl⟩ := g6 rfl
   exact ⟨D, n, d, rfl, f3, f4, f5, p1, f2.final⟩
  | cons p x =>
   have e1 : decide ((((p :: x).length : Nat) : Int) = 0) = false := vMn (by simp; omega)
   rw [e1]
   simp only [vMt]
   have hn : qT n := List.Pairwise.sublist g4 hm
   obtain ⟨E, o, y, k1, k2, k3, k4, k5⟩ := zVd hk g2 hn (by omega) t
   have p3 := k2.perm hn
   have l3 := p3.length_eq
   rw [List.length_append] at l3
   have r1 : qR (d.length + (p :: x).length) 56 = true := vR (by simp at l2 ⊢; omega) (by simp at l2 ⊢; omega)
   have r2 : qR ((d ++ (p :: x)).length + y.length) 56 = true := vR (by simp at l2 ⊢; omega) (by simp at l2 ⊢; omega)
   rw [k1]
   simp only [vMr, r1, r2, vMs]
   refine ⟨E, o, d ++ (p :: x) ++ y, rfl, k3, k4.trans (g3.trans f4), k5.trans (g4.trans f5), ?_, k2.final⟩
   have e2 : d ++ (p :: x) ++ y ++ o = d ++ ((p :: x) ++ (y ++ o)) := by simp
   rw [e2]
   exact ((p3.append_left (p :: x)).append_left d).trans ((g5.append_left d).trans p1)
end Go.Ab.Gi
