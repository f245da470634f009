/- audit.Zero, audit.Floors and the reference's. -/
import Derived.Test.YtnlkofpiaeoekaaGreatGiPCash
set_option linter.unusedVariables false
set_option linter.unusedSimpArgs false
namespace Go.Ab.Gi
open Go.Ab

abbrev AccA : Type := Int × Int × Int
abbrev Mtx : Type := List (List Int)
def at2 (p : Mtx) (i j : Nat) : Int := (p.getD i []).getD j 0

/-- A loop that carries data along while all is well, else ends. -/
theorem scanA {S X : Type} {L : Nat → Int → S → Option X} {N : Nat} (ok : Nat → Bool) (e : S → X) (b : X) (inv : Nat → S → Prop) (hend : ∀ n s, inv N s → L (n + 1) (N : Int) s = some (e s))
    (hstep : ∀ n i s, i < N → inv i s → (ok i = true → ∃ s', L (n + 1) (i : Int) s = L n ((i + 1 : Nat) : Int) s' ∧ inv (i + 1) s') ∧ (ok i = false → L (n + 1) (i : Int) s = some b)) :
    ∀ c i n s, i + c = N → c < n → inv i s → (allF ok c i = true ∧ ∃ s', L n (i : Int) s = some (e s') ∧ inv N s') ∨ (allF ok c i = false ∧ L n (i : Int) s = some b)
  | 0, i, n, s, h, hn, hs => by
    obtain ⟨n, rfl⟩ : ∃ m, n = m + 1 := ⟨n - 1, by omega⟩
    have : i = N := by omega
    subst this
    exact .inl ⟨rfl, s, hend n s hs, hs⟩
  | c + 1, i, n, s, h, hn, hs => by
    obtain ⟨n, rfl⟩ : ∃ m, n = m + 1 := ⟨n - 1, by omega⟩
    obtain ⟨h1, h2⟩ := hstep n i s (by omega) hs
    unfold allF
    cases ho : ok i with
    | true =>
      obtain ⟨s', h3, h4⟩ := h1 ho
      rw [h3]
      simp only [Bool.true_and]
      exact scanA ok e b inv hend hstep c (i + 1) n s' (by omega) (by omega) h4
    | false => exact .inr ⟨rfl, h2 ho⟩

/-- As many in each row as rows. -/
def squB (p : Mtx) : Bool := allF (fun i => decide ((p.getD i []).length = p.length)) p.length 0
/-- What one has of another, that has it of the one, with the other sign. -/
def antB (p : Mtx) : Bool := allF (fun i => allF (fun j => decide (at2 p j i = - at2 p i j)) p.length 0) p.length 0

theorem contains_odd {k : Nat} {p : Mtx} (hk : p.length < k) (hl : p.length < 9223372036854775808) (a : List AccA) (b : Mtx) (m : List Int) : slices_ContainsFunc_Rowint64__audit_Zero_fn1 k p a b m p = some (!squB p) := by
  obtain ⟨x, h1, h2⟩ := scan_any (L := fun c i => slices_IndexFunc_Rowint64__audit_Zero_fn1_L0 k c p p.length i a b m p) (N := p.length) (fun i => !decide ((p.getD i []).length = p.length)) (fun c => by
    show slices_IndexFunc_Rowint64__audit_Zero_fn1_L0b k _ p p.length p.length a b m p = _
    unfold slices_IndexFunc_Rowint64__audit_Zero_fn1_L0b
    simp only [dec_lt, decide_eq_false (Nat.lt_irrefl _), cond_false]) (fun c i hi => by
    show slices_IndexFunc_Rowint64__audit_Zero_fn1_L0b k _ p p.length i a b m p = _
    unfold slices_IndexFunc_Rowint64__audit_Zero_fn1_L0b audit_Zero_fn1
    simp only [boundOk_nat, w64_succ hi hl, dec_lt, dec_eq, Int.toNat_natCast, decide_eq_true hi, cond_true, Option.bind_some]) hk
  unfold slices_ContainsFunc_Rowint64__audit_Zero_fn1 slices_IndexFunc_Rowint64__audit_Zero_fn1
  rw [h1]
  simp only [Bool.not_not] at h2
  show _ = some (!allF (fun i => decide ((p.getD i []).length = p.length)) p.length 0)
  rw [← h2]
  cases x <;> rfl

section
variable {k : Nat} {p : Mtx} (hk : 500 ≤ k) (h20 : p.length ≤ 20) (hsq : ∀ i, i < p.length → (p.getD i []).length = p.length) (hb : ∀ i, i < p.length → ∀ j, j < p.length → -1152921504606846976 ≤ at2 p i j ∧ at2 p i j ≤ 1152921504606846976)
include hk h20 hsq hb

theorem zero_L1 (a : List AccA) (b : Mtx) (m : List Int) {i : Nat} (hi : i < p.length) {r : List Int} (hr : r.length ≤ 1000) :
    (allF (fun j => decide (at2 p j i = - at2 p i j)) p.length 0 = true ∧ audit_Zero_L1 k k i p p.length i (p.getD i []) p.length 0 a b m p r = some (.inl (p, p.length, i, a, b, m, p, r ++ p.getD i []))) ∨
    (allF (fun j => decide (at2 p j i = - at2 p i j)) p.length 0 = false ∧ audit_Zero_L1 k k i p p.length i (p.getD i []) p.length 0 a b m p r = some (.inr false)) := by
  have hrow := hsq i hi
  rcases scanA (L := fun n j (s : List Int) => audit_Zero_L1 k n i p p.length i (p.getD i []) p.length j a b m p s) (N := p.length) (fun j => decide (at2 p j i = - at2 p i j)) (fun s => .inl (p, (p.length : Int), (i : Int), a, b, m, p, s)) (.inr false) (fun j s => s = r ++ (p.getD i []).take j) (fun n s _ => by
    show audit_Zero_L1b k _ i p p.length i (p.getD i []) p.length p.length a b m p s = _
    unfold audit_Zero_L1b
    simp only [dec_lt, decide_eq_false (Nat.lt_irrefl _), cond_false]) (fun n j s hj hs => by
    have hjr := hsq j hj
    have hc := hb i hi j hj
    have hw : w64 (0 - at2 p i j) = - at2 p i j := by rw [w64_id (by omega) (by omega)]; omega
    unfold at2 at hw
    have hrm : roomB (s.length + 1) 8 = true := by
      have : s.length ≤ 1020 := by rw [hs, List.length_append, List.length_take]; omega
      exact roomB_true (by omega) (by omega)
    have key : audit_Zero_L1b k (audit_Zero_L1 k n) i p p.length i (p.getD i []) p.length j a b m p s = bif decide (at2 p j i = - at2 p i j) then audit_Zero_L1 k n i p p.length i (p.getD i []) p.length ((j + 1 : Nat) : Int) a b m p (s ++ [at2 p i j]) else some (.inr false) := by
      unfold audit_Zero_L1b at2
      simp only [boundOk_nat, w64_succ hj (show p.length < 9223372036854775808 by omega), dec_lt, Int.toNat_natCast, decide_eq_true hj, hrow, hjr, decide_eq_true hi, cond_true, hw, hrm]
      cases decide ((p.getD j []).getD i 0 = -(p.getD i []).getD j 0) <;> rfl
    refine ⟨fun ho => ⟨s ++ [at2 p i j], ?_, ?_⟩, fun ho => ?_⟩
    · show audit_Zero_L1b k (audit_Zero_L1 k n) i p p.length i (p.getD i []) p.length j a b m p s = _
      rw [key, ho]
      rfl
    · rw [hs, List.append_assoc]
      congr 1
      rw [List.take_add_one, List.getElem?_eq_getElem (by omega)]
      unfold at2
      rw [List.getD_eq_getElem?_getD (l := p.getD i []), List.getElem?_eq_getElem (by omega)]
      rfl
    · show audit_Zero_L1b k (audit_Zero_L1 k n) i p p.length i (p.getD i []) p.length j a b m p s = _
      rw [key, ho]
      rfl) p.length 0 k r (by omega) (by omega) (by simp) with ⟨h1, s', h2, h3⟩ | ⟨h1, h2⟩
  · refine .inl ⟨h1, ?_⟩
    rw [← hrow, List.take_length] at h3
    subst h3
    exact h2
  · exact .inr ⟨h1, h2⟩

theorem zero_L0 (a : List AccA) (b : Mtx) (m : List Int) :
    (antB p = true ∧ audit_Zero_L0 k k p p.length 0 a b m p [] = some (.inl p.flatten)) ∨ (antB p = false ∧ audit_Zero_L0 k k p p.length 0 a b m p [] = some (.inr false)) := by
  rcases scanA (L := fun n i (s : List Int) => audit_Zero_L0 k n p p.length i a b m p s) (N := p.length) (fun i => allF (fun j => decide (at2 p j i = - at2 p i j)) p.length 0) (fun s => .inl s) (.inr false) (fun i s => s = (p.take i).flatten ∧ s.length = i * p.length) (fun n s _ => by
    show audit_Zero_L0b k _ p p.length p.length a b m p s = _
    unfold audit_Zero_L0b
    simp only [dec_lt, decide_eq_false (Nat.lt_irrefl _), cond_false]) (fun n i s hi hs => by
    have hrow := hsq i hi
    have hlen : s.length ≤ 1000 := by
      rw [hs.2]
      have : i * p.length ≤ 20 * 20 := Nat.mul_le_mul (by omega) h20
      omega
    have hz := zero_L1 hk h20 hsq hb a b m hi hlen
    have key : audit_Zero_L0b k (audit_Zero_L0 k n) p p.length i a b m p s = bif allF (fun j => decide (at2 p j i = - at2 p i j)) p.length 0 then audit_Zero_L0 k n p p.length ((i + 1 : Nat) : Int) a b m p (s ++ p.getD i []) else some (.inr false) := by
      unfold audit_Zero_L0b
      simp only [boundOk_nat, dec_lt, Int.toNat_natCast, decide_eq_true hi, cond_true, hrow]
      rcases hz with ⟨h1, h2⟩ | ⟨h1, h2⟩
      · rw [h1, h2]
        simp only [Option.bind_some, w64_succ hi (show p.length < 9223372036854775808 by omega)]
        rfl
      · rw [h1, h2]
        rfl
    refine ⟨fun ho => ⟨s ++ p.getD i [], ?_, ?_, ?_⟩, fun ho => ?_⟩
    · show audit_Zero_L0b k (audit_Zero_L0 k n) p p.length i a b m p s = _
      rw [key, ho]
      rfl
    · rw [hs.1, List.take_add_one, List.getElem?_eq_getElem hi, List.flatten_append, List.getD_eq_getElem?_getD, List.getElem?_eq_getElem hi]
      simp
    · rw [List.length_append, hs.2, hrow, Nat.add_mul, Nat.one_mul]
    · show audit_Zero_L0b k (audit_Zero_L0 k n) p p.length i a b m p s = _
      rw [key, ho]
      rfl) p.length 0 k [] (by omega) (by omega) ⟨by simp, by simp⟩ with ⟨h1, s', h2, h3, h4⟩ | ⟨h1, h2⟩
  · refine .inl ⟨h1, ?_⟩
    rw [List.take_length] at h3
    subst h3
    exact h2
  · exact .inr ⟨h1, h2⟩
end

end Go.Ab.Gi
