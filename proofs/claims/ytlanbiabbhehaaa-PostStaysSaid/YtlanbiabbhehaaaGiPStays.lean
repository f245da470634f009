/- PostStays. -/
import Derived.Test.YtlanbiabbhehaaaGiPTells
import Derived.Test.YtlanbiabbhehaaaGiPSum
set_option linter.unusedVariables false
set_option linter.unusedSimpArgs false
namespace Go.Ab.Gi
open Go.Ab

theorem sum_map_range (g : Nat → Int) : ∀ n, sumL (fun x => x) ((List.range n).map g) = sumN g n
  | 0 => rfl
  | n + 1 => by
    rw [List.range_succ, List.map_append, sumL_append, sum_map_range g n]
    show sumN g n + (g n + 0) = sumN g n + g n
    omega

theorem postStays_L0 {k n : Nat} {a c : List Acc} (b d : List (List Int)) (m e : List Int) (p q : List (List Int)) (s : Int) (hk : n < k) (hn : n ≤ 1000) (ha : a.length = n) (hc : c.length = n) :
    girolaw16_PostStays_L0 k k s 0 a b m p c d e q [] [] = some (s, a, b, m, p, c, d, e, q, (List.range n).map (fun i => (a.getD i ad).1), (List.range n).map (fun i => (c.getD i ad).1)) := by
  obtain ⟨z, h1, h2⟩ := carryE0 (L := fun f i (z : List Int × List Int) => girolaw16_PostStays_L0 k f s i a b m p c d e q z.1 z.2) (N := n) (fun z => (s, a, b, m, p, c, d, e, q, z.1, z.2)) (fun i z => z = ((List.range i).map (fun i => (a.getD i ad).1), (List.range i).map (fun i => (c.getD i ad).1))) (fun f z hz => by
      show girolaw16_PostStays_L0b k _ s n a b m p c d e q z.1 z.2 = _
      unfold girolaw16_PostStays_L0b
      simp only [dec_lt, ha, decide_eq_false (Nat.lt_irrefl _), cond_false]) (fun f i z hi hz => by
      refine ⟨((List.range (i + 1)).map (fun i => (a.getD i ad).1), (List.range (i + 1)).map (fun i => (c.getD i ad).1)), ?_, rfl⟩
      show girolaw16_PostStays_L0b k _ s i a b m p c d e q z.1 z.2 = _
      subst hz
      unfold girolaw16_PostStays_L0b
      simp only [List.length_map, List.length_range]
      have hr : roomB (i + 1) 8 = true := roomB_true (by omega) (by omega)
      simp only [boundOk_nat, w64_succ hi (show n < 9223372036854775808 by omega), dec_lt, Int.toNat_natCast, ha, hc, decide_eq_true hi, cond_true, hr, List.range_succ, List.map_append, List.map_cons, List.map_nil]) (s := ([], [])) hk rfl
  rw [h1, h2]

theorem stays {a : List Acc} {b : List (List Int)} {m : List Int} {p : List (List Int)} {l : List PayT} {r : List Acc × List (List Int) × List Int × List (List Int) × Int} (hb : Books a b m p) (h : PostIs a b m p l r) :
    sumN (fun i => (r.1.getD i ad).1) a.length = sumN (fun i => (a.getD i ad).1) a.length ∧ Books r.1 r.2.1 r.2.2.1 r.2.2.2.1 ∧ (r.2.2.2.2 = 0 ∨ (r.1 = a ∧ r.2.1 = b ∧ r.2.2.1 = m ∧ r.2.2.2.1 = p)) := by
  by_cases c : Row a.length l
  · obtain ⟨a', p', x, e⟩ := h.1 c
    cases hi : isB a' b m p' with
    | false =>
      rw [hi] at e
      subst e
      exact ⟨rfl, hb, .inr ⟨rfl, rfl, rfl, rfl⟩⟩
    | true =>
      rw [hi] at e
      subst e
      refine ⟨?_, isB_iff.1 hi, .inl rfl⟩
      have e1 : sumN (fun i => (a'.getD i ad).1) a.length = sumN (fun i => (a.getD i ad).1 + sumL (gB i) l) a.length := sumN_congr fun j hj => by rw [x.acct j hj]
      show sumN (fun i => (a'.getD i ad).1) a.length = _
      rw [e1, sumN_add, sumN_sumL]
      have e2 : sumL (fun p => sumN (fun j => gB j p) a.length) l = sumL (fun _ => (0 : Int)) l := sumL_congr fun p hp => by
        obtain ⟨f0, f1, t0, t1, ne, a1, a2, c1, c3⟩ := c.1 p hp
        obtain ⟨f, hf⟩ : ∃ f : Nat, p.2.1 = f := ⟨p.2.1.toNat, by omega⟩
        obtain ⟨t, ht⟩ : ∃ t : Nat, p.2.2.1 = t := ⟨p.2.2.1.toNat, by omega⟩
        have g1 : ∀ j, gB j p = (if j = t then p.2.2.2.1 else 0) + (if j = f then -p.2.2.2.1 else 0) := by
          intro j
          unfold gB
          rw [hf, ht]
          by_cases c : j = t <;> by_cases d : j = f <;> (repeat (first | rw [if_pos (by omega)] | rw [if_neg (by omega)])) <;> omega
        rw [sumN_congr fun j _ => g1 j, sumN_add, sumN_one, sumN_one, if_pos (by omega), if_pos (by omega)]
        omega
      have e3 : ∀ l : List PayT, sumL (fun _ : PayT => (0 : Int)) l = 0 := by
        intro l
        induction l with
        | nil => rfl
        | cons p l ih => show 0 + sumL _ l = 0; rw [ih]; rfl
      rw [e2, e3, Int.add_zero]
  · have e := h.2 c
    subst e
    exact ⟨rfl, hb, .inr ⟨rfl, rfl, rfl, rfl⟩⟩

theorem bal_range {a : List Acc} {b : List (List Int)} {m : List Int} {p : List (List Int)} (h : Books a b m p) : ∀ x ∈ (List.range a.length).map (fun i => (a.getD i ad).1), -9223372036854775808 ≤ x ∧ x < 9223372036854775808 := by
  intro x hx
  obtain ⟨i, hi, rfl⟩ := List.mem_map.1 hx
  have := h.nums.bal i (List.mem_range.1 hi)
  omega

theorem postStays (a : List Acc) (b : List (List Int)) (m : List Int) (p : List (List Int)) (l : List PayT) : girolaw16_PostStays 200 a b m p l = some true := by
  unfold girolaw16_PostStays
  rw [giroref10_Is_eq (by omega)]
  simp only [Option.bind_some]
  cases hB : isB a b m p with
  | false => rfl
  | true =>
    have hb := isB_iff.1 hB
    by_cases h64 : l.length > 64
    · have : decide (((l.length : Nat) : Int) > 64) = true := decide_eq_true (by omega)
      rw [this]; rfl
    · have : decide (((l.length : Nat) : Int) > 64) = false := decide_eq_false (by omega)
      rw [this]
      have h6 := hb.n6
      obtain ⟨⟨c, d, e, q, s⟩, h1, h2⟩ := post_Post_eq (k := 200) (by omega) hb (l := l) (by omega)
      have hlen := (h2.sized hb).2
      obtain ⟨s1, s2, s3⟩ := stays hb h2
      dsimp only at hlen s1 s2 s3
      simp only [Bool.not_true, cond_false, h1, Option.bind_some]
      rw [postStays_L0 b d m e p q s (show a.length < 200 by omega) (by omega) rfl hlen]
      have r1 := bal_range hb
      have r2 := bal_range s2
      rw [hlen] at r2
      simp only [Option.bind_some]
      rw [giroref1_Sum_eq (by simp; omega) (by simp; omega) r1, giroref1_Sum_eq (by simp; omega) (by simp; omega) r2]
      rw [sum_map_range, sum_map_range, s1, giroref10_Is_eq (by omega), isB_iff.2 s2]
      have eb : ∀ x : Bool, eqBool x x = true := by intro x; cases x <;> rfl
      simp only [Option.bind_some, hlen, decide_true, cond_true, eb, girolaw16_known_eq]
      rcases s3 with s3 | ⟨rfl, rfl, rfl, rfl⟩
      · rw [s3]; rfl
      · rw [same_refl (by omega) hb.toSized]
        cases decide (s = 0) <;> rfl
end Go.Ab.Gi
