/- girolaw27.rowed: payments that may be, of distinct numbers. -/
import Derived.Test.YtnlkofpiaeoekaaGreatGiPRowed
set_option linter.unusedVariables false
set_option linter.unusedSimpArgs false
namespace Go.Ab.Gi
open Go.Ab

theorem ex_cond' {α β : Type} {z : Bool} {x y : β} {f : α → β} {Q : α → Prop} (h : z = true → ∃ s, x = f s ∧ Q s) (h' : z = false → ∃ s, y = f s ∧ Q s) : ∃ s, (bif z then x else y) = f s ∧ Q s := by
  cases z
  · exact h' rfl
  · exact h rfl

/-- Of three, of few. -/
def Few (p : PayT) : Prop := May 3 p ∧ p.2.2.2.1 ≤ 32

theorem band255 (x : Int) : 0 ≤ band .i64 x 255 ∧ band .i64 x 255 < 256 := by
  have h : band .i64 x 255 = x % 256 := band_mask 8 (by omega) x
  rw [h]; omega

theorem band31 (x : Int) : 0 ≤ band .i64 x 31 ∧ band .i64 x 31 < 32 := by
  have h : band .i64 x 31 = x % 32 := band_mask 5 (by omega) x
  rw [h]; omega

theorem tmod3 {x : Int} (h : 0 ≤ x) : Int.tmod x 3 = x % 3 := Int.tmod_eq_emod_of_nonneg h

/-- Numbers are told apart, payments are drawn. -/
theorem rowedM27 {k : Nat} {l : List PayT} (hk : l.length < k) (hl : l.length ≤ 100) : ∃ r, girolaw27_rowed k l = some r ∧ Dist r ∧ r.length ≤ l.length ∧ ∀ p ∈ r, Few p := by
  obtain ⟨r, h1, h2, h3⟩ := carryE0 (L := fun n i (s : List PayT) => girolaw27_rowed_L0 k n l s i) (N := l.length) (fun s => s) (fun i s => Dist s ∧ s.length ≤ i ∧ ∀ p ∈ s, Few p) (fun n s _ => by
    show girolaw27_rowed_L0b k _ l s l.length = _
    unfold girolaw27_rowed_L0b
    simp only [dec_lt, decide_eq_false (Nat.lt_irrefl _), cond_false]) (fun n i s hi hs => by
    show ∃ s', girolaw27_rowed_L0b k _ l s i = _ ∧ _
    unfold girolaw27_rowed_L0b
    simp only [boundOk_nat, w64_succ hi (show l.length < 9223372036854775808 by omega), dec_lt, Int.toNat_natCast, decide_eq_true hi, cond_true]
    have hQ : ∀ (p : PayT), Few p → ∃ s', (giroref13_Put k s p.1 p.2.1 p.2.2.1 p.2.2.2.1 p.2.2.2.2.1 p.2.2.2.2.2.1 p.2.2.2.2.2.2).bind (fun x0 => bif decide (x0.2 = 0) then girolaw27_rowed_L0 k n l x0.1 ((i + 1 : Nat) : Int) else girolaw27_rowed_L0 k n l s ((i + 1 : Nat) : Int)) = girolaw27_rowed_L0 k n l s' ((i + 1 : Nat) : Int) ∧ (Dist s' ∧ s'.length ≤ i + 1 ∧ ∀ p ∈ s', Few p) := by
      intro p hp
      obtain ⟨r, h1, h2⟩ := giroref13_Put_eq (k := k) (l := s) (by omega) (by show s.length ≤ 1000; omega) hs.1 p
      rw [h1]
      simp only [Option.bind_some]
      cases hc : decide (r.2 = 0) with
      | true =>
        obtain ⟨h3, h4, x, h5⟩ := h2 (by simpa using hc)
        refine ⟨r.1, rfl, h3, by omega, fun q hq => ?_⟩
        rw [h5, List.mem_append, List.mem_append, List.mem_singleton] at hq
        rcases hq with (hq | rfl) | hq
        · exact hs.2.2 q (List.mem_of_mem_take hq)
        · exact hp
        · exact hs.2.2 q (List.mem_of_mem_drop hq)
      | false => exact ⟨s, rfl, hs.1, by omega, hs.2.2⟩
    have hf := band255 (l.getD i pd).2.1
    have ht := band255 (l.getD i pd).2.2.1
    have ha := band31 (l.getD i pd).2.2.2.1
    have hc := band255 (l.getD i pd).2.2.2.2.1
    simp only [pd] at hf ht ha hc
    obtain ⟨F, eF⟩ : ∃ F, band .i64 (l.getD i (0, (0, (0, (0, (0, (0, 0))))))).2.1 255 = F := ⟨_, rfl⟩
    obtain ⟨T, eT⟩ : ∃ F, band .i64 (l.getD i (0, (0, (0, (0, (0, (0, 0))))))).2.2.1 255 = F := ⟨_, rfl⟩
    obtain ⟨A, eA⟩ : ∃ F, band .i64 (l.getD i (0, (0, (0, (0, (0, (0, 0))))))).2.2.2.1 31 = F := ⟨_, rfl⟩
    obtain ⟨C, eC⟩ : ∃ F, band .i64 (l.getD i (0, (0, (0, (0, (0, (0, 0))))))).2.2.2.2.1 255 = F := ⟨_, rfl⟩
    rw [eF] at hf
    rw [eT] at ht
    rw [eA] at ha
    rw [eC] at hc
    have hF := Int.emod_nonneg F (show (3 : Int) ≠ 0 by omega)
    have hF' := Int.emod_lt_of_pos F (show (0 : Int) < 3 by omega)
    have hT := Int.emod_nonneg T (show (3 : Int) ≠ 0 by omega)
    have hT' := Int.emod_lt_of_pos T (show (0 : Int) < 3 by omega)
    have hC := Int.emod_nonneg C (show (3 : Int) ≠ 0 by omega)
    have hC' := Int.emod_lt_of_pos C (show (0 : Int) < 3 by omega)
    have wA : w64 (1 + A) = 1 + A := w64_id (by omega) (by omega)
    have wC : w64 (1 + C % 3) = 1 + C % 3 := w64_id (by omega) (by omega)
    have wF : w64 (F % 3 + 1) = F % 3 + 1 := w64_id (by omega) (by omega)
    simp only [eF, eT, eA, eC, tmod3 hf.1, tmod3 ht.1, tmod3 hc.1, wA, wC, wF, tmod3 (show 0 ≤ F % 3 + 1 by omega)]
    refine ex_cond' (fun e => ?_) (fun e => ?_)
    · exact hQ (_, F % 3, (F % 3 + 1) % 3, 1 + A, 1 + C % 3, _, _) ⟨⟨by show 0 ≤ F % 3; omega, by show F % 3 < 3; omega, by show 0 ≤ (F % 3 + 1) % 3; omega, by show (F % 3 + 1) % 3 < 3; omega, by show F % 3 ≠ (F % 3 + 1) % 3; omega, by show 1 ≤ 1 + A; omega, by show 1 + A ≤ 1099511627776; omega, by show 1 ≤ 1 + C % 3; omega, by show 1 + C % 3 ≤ 3; omega⟩, by show 1 + A ≤ 32; omega⟩
    · have ne : F % 3 ≠ T % 3 := by simpa using e
      exact hQ (_, F % 3, T % 3, 1 + A, 1 + C % 3, _, _) ⟨⟨by show 0 ≤ F % 3; omega, by show F % 3 < 3; omega, by show 0 ≤ T % 3; omega, by show T % 3 < 3; omega, ne, by show 1 ≤ 1 + A; omega, by show 1 + A ≤ 1099511627776; omega, by show 1 ≤ 1 + C % 3; omega, by show 1 + C % 3 ≤ 3; omega⟩, by show 1 + A ≤ 32; omega⟩) (s := []) hk ⟨List.Pairwise.nil, Nat.le_refl _, fun p hp => by cases hp⟩
  have h1' : girolaw27_rowed_L0 k k l [] 0 = some r := h1
  refine ⟨r, ?_, h2, h3⟩
  unfold girolaw27_rowed
  rw [h1']
  rfl
end Go.Ab.Gi
