/- part 23 -/
import Derived.Test.YtdhajnjinkknkaaGreatGiPPairG
import Derived.Test.YtdhajnjinkknkaaGreatGiPFreeP
set_option linter.unusedVariables false
set_option linter.unusedSimpArgs false
namespace Go.Ab.Gi
open Go.Ab
theorem pair_in {k : Nat} (hk : 100 < k) {B : BT} (h : BooksT B) (m : List PayT) (hm : m.length ≤ 1000) (p : PayT) (s19 s20 : Int) : ∀ c i n, i + c = m.length → c < n →
  pair_next_L1 k n s19 s20 m.length i B.1 B.2.1 B.2.2.1 B.2.2.2 0 0 0 0 0 0 0 0 0 0 0 0 0 0 m p.1 p.2.1 p.2.2.1 p.2.2.2.1 p.2.2.2.2.1 p.2.2.2.2.2.1 p.2.2.2.2.2.2 = some (match nextQ k B p (m.drop i) with
   | some (q, C) => .inr (true, p.1, p.2.1, p.2.2.1, p.2.2.2.1, p.2.2.2.2.1, p.2.2.2.2.2.1, p.2.2.2.2.2.2, q.1, q.2.1, q.2.2.1, q.2.2.2.1, q.2.2.2.2.1, q.2.2.2.2.2.1, q.2.2.2.2.2.2, C.1, C.2.1, C.2.2.1, C.2.2.2)
   | none => .inl (s19, s20, B.1, B.2.1, B.2.2.1, B.2.2.2, 0, 0, 0, 0, 0, 0, 0, 0, 0, 0, 0, 0, 0, 0, m))
 | 0, i, n, e, hn => by
  obtain ⟨n, rfl⟩ : ∃ x, n = x + 1 := ⟨n - 1, by omega⟩
  have : i = m.length := by omega
  subst this
  show pair_next_L1b k _ s19 s20 m.length m.length B.1 B.2.1 B.2.2.1 B.2.2.2 0 0 0 0 0 0 0 0 0 0 0 0 0 0 m p.1 p.2.1 p.2.2.1 p.2.2.2.1 p.2.2.2.2.1 p.2.2.2.2.2.1 p.2.2.2.2.2.2 = _
  unfold pair_next_L1b
  simp only [dec_lt, decide_eq_false (Nat.lt_irrefl _), cond_false, List.drop_length]
  rfl
 | c + 1, i, n, e, hn => by
  obtain ⟨n, rfl⟩ : ∃ x, n = x + 1 := ⟨n - 1, by omega⟩
  have hi : i < m.length := by omega
  have ih := pair_in hk h m hm p s19 s20 c (i + 1) n (by omega) (by omega)
  show pair_next_L1b k _ s19 s20 m.length i B.1 B.2.1 B.2.2.1 B.2.2.2 0 0 0 0 0 0 0 0 0 0 0 0 0 0 m p.1 p.2.1 p.2.2.1 p.2.2.2.1 p.2.2.2.2.1 p.2.2.2.2.2.1 p.2.2.2.2.2.2 = _
  unfold pair_next_L1b
  obtain ⟨r, h1, h2, h3⟩ := giroref16_is hk h (l := [p, m.getD i pd]) (by simp)
  have hf := fits_T hk h (l := [p, m.getD i pd]) (by simp)
  have h1' : post_Post k B.1 B.2.1 B.2.2.1 B.2.2.2 [(p.1, p.2.1, p.2.2.1, p.2.2.2.1, p.2.2.2.2.1, p.2.2.2.2.2.1, p.2.2.2.2.2.2), m.getD i (0, (0, (0, (0, (0, (0, 0))))))] = some r := h1
  have hf' : fits_Fits k B.1 B.2.1 B.2.2.1 B.2.2.2 [(p.1, p.2.1, p.2.2.1, p.2.2.2.1, p.2.2.2.2.1, p.2.2.2.2.2.1, p.2.2.2.2.2.2), m.getD i (0, (0, (0, (0, (0, (0, 0))))))] = some (fitsT B [p, m.getD i pd]) := hf
  simp only [boundOk_nat, w64_succ hi (show m.length < 9223372036854775808 by omega), dec_lt, Int.toNat_natCast, decide_eq_true hi, cond_true, hf', h1', Option.bind_some]
  rw [nextQ_drop k B p hi]
  unfold duo
  cases decide ((m.getD i pd).2.1 = p.2.2.1) with
  | false => exact ih
  | true =>
   cases decide ((m.getD i pd).2.2.1 = p.2.1) with
   | false => exact ih
   | true =>
    cases decide (p.2.1 ≥ (m.getD i pd).2.1) with
    | true => exact ih
    | false =>
     unfold goes
     rw [h1]
     simp only [Bool.not_true, Bool.not_false, Bool.and_true, cond_true, cond_false]
     cases fitsT B [p, m.getD i pd] with
     | false =>
      simp only [Bool.not_false, cond_true, Bool.and_false, cond_false]
      exact ih
     | true =>
      simp only [Bool.not_true, cond_false, Bool.and_true]
      cases decide (r.2.2.2.2 = 0) with
      | false => exact ih
      | true => rfl
theorem pair_out {k : Nat} (hk : 100 < k) {B : BT} (h : BooksT B) (m : List PayT) (hm : m.length ≤ 1000) (hmk : m.length < k) : ∀ c i n, i + c = m.length → c < n →
  pair_next_L0 k n m.length i B.1 B.2.1 B.2.2.1 B.2.2.2 0 0 0 0 0 0 0 0 0 0 0 0 0 0 m = some (match nextP k B m (m.drop i) with
   | some (p, q, C) => .inr (true, p.1, p.2.1, p.2.2.1, p.2.2.2.1, p.2.2.2.2.1, p.2.2.2.2.2.1, p.2.2.2.2.2.2, q.1, q.2.1, q.2.2.1, q.2.2.2.1, q.2.2.2.2.1, q.2.2.2.2.2.1, q.2.2.2.2.2.2, C.1, C.2.1, C.2.2.1, C.2.2.2)
   | none => .inl (0, 0, 0, 0, 0, 0, 0, 0, 0, 0, 0, 0, 0, 0))
 | 0, i, n, e, hn => by
  obtain ⟨n, rfl⟩ : ∃ x, n = x + 1 := ⟨n - 1, by omega⟩
  have : i = m.length := by omega
  subst this
  show pair_next_L0b k _ m.length m.length B.1 B.2.1 B.2.2.1 B.2.2.2 0 0 0 0 0 0 0 0 0 0 0 0 0 0 m = _
  unfold pair_next_L0b
  simp only [dec_lt, decide_eq_false (Nat.lt_irrefl _), cond_false, List.drop_length]
  rfl
 | c + 1, i, n, e, hn => by
  obtain ⟨n, rfl⟩ : ∃ x, n = x + 1 := ⟨n - 1, by omega⟩
  have hi : i < m.length := by omega
  have ih := pair_out hk h m hm hmk c (i + 1) n (by omega) (by omega)
  show pair_next_L0b k _ m.length i B.1 B.2.1 B.2.2.1 B.2.2.2 0 0 0 0 0 0 0 0 0 0 0 0 0 0 m = _
  unfold pair_next_L0b
  have hin := pair_in hk h m hm (m.getD i pd) m.length i m.length 0 k (by omega) hmk
  have e0 : ((0 : Nat) : Int) = 0 := rfl
  rw [e0, List.drop_zero] at hin
  simp only [pd] at hin
  simp only [boundOk_nat, dec_lt, Int.toNat_natCast, decide_eq_true hi, cond_true]
  rw [hin]
  rw [nextP_drop k B m hi]
  simp only [pd]
  cases nextQ k B (m.getD i (0, (0, (0, (0, (0, (0, 0))))))) m with
  | none =>
   simp only [Option.bind_some, w64_succ hi (show m.length < 9223372036854775808 by omega)]
   exact ih
  | some x => rfl
def nextS (x : Option (PayT × PayT × BT)) : Int × Int × Int × Int × Int × Int × Int × Int × Int × Int × Int × Int × Int × Int × (List (Int × Int × Int)) × (List (List Int)) × (List Int) × (List (List Int)) × Bool := match x with
 | some (p, q, C) => (p.1, p.2.1, p.2.2.1, p.2.2.2.1, p.2.2.2.2.1, p.2.2.2.2.2.1, p.2.2.2.2.2.2, q.1, q.2.1, q.2.2.1, q.2.2.2.1, q.2.2.2.2.1, q.2.2.2.2.2.1, q.2.2.2.2.2.2, C.1, C.2.1, C.2.2.1, C.2.2.2, true)
 | none => (0, 0, 0, 0, 0, 0, 0, 0, 0, 0, 0, 0, 0, 0, [], [], [], [], false)
theorem pair_next_eq {k : Nat} (hk : 100 < k) {B : BT} (h : BooksT B) {l : List PayT} (hkl : l.length < k) (hl : Small l) (hd : Dist l) (t : Int) : pair_next k B.1 B.2.1 B.2.2.1 B.2.2.2 l t = some (nextS (pairs k B l t)) := by
 unfold pair_next pairs
 rw [view_May_eq hkl hl hd]
 have hml := mayL_length l t
 unfold Small at hl
 have := pair_out hk h (mayL l t) (by omega) (by omega) (mayL l t).length 0 k (by omega) (by omega)
 have e : ((0 : Nat) : Int) = 0 := rfl
 rw [e, List.drop_zero] at this
 simp only [Option.bind_some]
 rw [this]
 cases nextP k B (mayL l t) (mayL l t) with
 | none => rfl
 | some x => rfl
theorem two_loop {k : Nat} (hk : 3 ≤ k) (t : Int) (l : List PayT) (hl : l.length ≤ 1000) (hlk : l.length < k) (C : BT) (r : List PayT) (hr : r.length ≤ 900) (p q : PayT) :
  pair_Run_L1 k k t l 2 0 C.1 C.2.1 C.2.2.1 C.2.2.2 r [p, q] = some (t, drop2 l p q, C.1, C.2.1, C.2.2.1, C.2.2.2, r ++ [p, q]) := by
 obtain ⟨n, rfl⟩ : ∃ n, k = n + 3 := ⟨k - 3, by omega⟩
 have h1 := row_Drop_eq hlk (show Small l from hl) p.1
 have hl1 : (dropL l p.1).length ≤ l.length := by
  unfold dropL dropR
  cases hp : posL l p.1 with
  | none => exact Nat.le_refl _
  | some x => exact List.Sublist.length_le (cutL_sub l x)
 have h2 := row_Drop_eq (k := n + 3) (l := dropL l p.1) (by omega) (show (dropL l p.1).length ≤ 1000 by omega) q.1
 have e1 : roomB (r.length + 1) 56 = true := room56 (by omega)
 have e2 : roomB ((r ++ [p]).length + 1) 56 = true := room56 (by rw [List.length_append]; simp; omega)
 show pair_Run_L1b (n + 3) (pair_Run_L1 (n + 3) (n + 2)) t l 2 0 C.1 C.2.1 C.2.2.1 C.2.2.2 r [p, q] = _
 unfold pair_Run_L1b
 have g0 : [p, q].getD (Int.toNat 0) (0, (0, (0, (0, (0, (0, 0)))))) = p := rfl
 have b0 : boundOk 0 [p, q].length = true := rfl
 have d0 : decide ((0 : Int) < 2) = true := rfl
 have w0 : w64 (0 + 1) = 1 := by decide
 rw [d0, b0, g0, h1]
 simp only [cond_true, Option.bind_some, e1, w0]
 show pair_Run_L1b (n + 3) (pair_Run_L1 (n + 3) (n + 1)) t (dropL l p.1) 2 1 C.1 C.2.1 C.2.2.1 C.2.2.2 (r ++ [p]) [p, q] = _
 unfold pair_Run_L1b
 have g1 : [p, q].getD (Int.toNat 1) (0, (0, (0, (0, (0, (0, 0)))))) = q := rfl
 have b1 : boundOk 1 [p, q].length = true := rfl
 have d1 : decide ((1 : Int) < 2) = true := rfl
 have w1 : w64 (1 + 1) = 2 := by decide
 rw [d1, b1, g1, h2]
 simp only [cond_true, Option.bind_some, e2, w1]
 show pair_Run_L1b (n + 3) (pair_Run_L1 (n + 3) n) t (drop2 l p q) 2 2 C.1 C.2.1 C.2.2.1 C.2.2.2 (r ++ [p] ++ [q]) [p, q] = _
 unfold pair_Run_L1b
 have d2 : decide ((2 : Int) < 2) = false := rfl
 rw [d2, List.append_assoc]
 rfl
theorem pair_run {k : Nat} (hk : 100 < k) (t : Int) : ∀ (n : Nat) (B : BT) (l r : List PayT), BooksT B → Dist l → l.length ≤ 100 → l.length < n → r.length + l.length ≤ 900 →
  ∃ (C : BT) (m done : List PayT), pair_Run_L0 k n t l B.1 B.2.1 B.2.2.1 B.2.2.2 r = some (m, C.1, C.2.1, C.2.2.1, C.2.2.2, r ++ done) ∧ Ran2 k t B l done C m ∧ BooksT C ∧ C.1.length = B.1.length ∧ List.Sublist m l
 | 0, _, _, _, _, _, _, h, _ => absurd h (Nat.not_lt_zero _)
 | n + 1, B, l, r, hb, hd, hl, hn, hr => by
  have h1 := pair_next_eq hk hb (l := l) (by omega) (by show l.length ≤ 1000; omega) hd t
  cases hx : pairs k B l t with
  | none =>
   rw [hx] at h1
   refine ⟨B, l, [], ?_, .stop hx, hb, rfl, List.Sublist.refl _⟩
   show pair_Run_L0b k _ t l B.1 B.2.1 B.2.2.1 B.2.2.2 r = _
   unfold pair_Run_L0b
   rw [h1]
   simp only [Option.bind_some, nextS, Bool.not_false, cond_true, List.append_nil]
  | some x =>
   obtain ⟨p, q, C⟩ := x
   rw [hx] at h1
   obtain ⟨hp, hq, hdu, hg⟩ := pairs_ok hx
   obtain ⟨hl1, hl2⟩ := drop2_of hd hp hq hdu
   obtain ⟨hc1, hc2⟩ := goes_books hk hb (by simp) hg
   obtain ⟨D, m, done, g1, g3, g4, g5, g6⟩ := pair_run hk t n C (drop2 l p q) (r ++ [p, q]) hc1 (List.Pairwise.sublist hl2 hd) (by omega) (by omega) (by rw [List.length_append]; simp; omega)
   have e2 : r ++ [p, q] ++ done = r ++ p :: q :: done := by rw [List.append_assoc]; rfl
   refine ⟨D, m, p :: q :: done, ?_, .step hx g3, g4, g5.trans hc2, g6.trans hl2⟩
   show pair_Run_L0b k _ t l B.1 B.2.1 B.2.2.1 B.2.2.2 r = _
   unfold pair_Run_L0b
   rw [h1]
   have hL := two_loop (k := k) (by omega) t l (by omega) (by omega) C r (by omega) p q
   simp only [Option.bind_some, nextS, Bool.not_true, cond_false]
   have hL' : pair_Run_L1 k k t l 2 0 C.1 C.2.1 C.2.2.1 C.2.2.2 r [(p.1, p.2.1, p.2.2.1, p.2.2.2.1, p.2.2.2.2.1, p.2.2.2.2.2.1, p.2.2.2.2.2.2), (q.1, q.2.1, q.2.2.1, q.2.2.2.1, q.2.2.2.2.1, q.2.2.2.2.2.1, q.2.2.2.2.2.2)] = _ := hL
   rw [hL']
   simp only [Option.bind_some]
   rw [g1, e2]
theorem pair_Run_is {k : Nat} (hk : 200 ≤ k) {B : BT} (hb : BooksT B) {l : List PayT} (hd : Dist l) (hl : l.length ≤ 100) (t : Int) :
  ∃ (C : BT) (m done : List PayT), pair_Run k B.1 B.2.1 B.2.2.1 B.2.2.2 l t = some (C.1, C.2.1, C.2.2.1, C.2.2.2, m, done) ∧ Ran2 k t B l done C m ∧ BooksT C ∧ C.1.length = B.1.length ∧ List.Sublist m l := by
 obtain ⟨C, m, done, h1, h3⟩ := pair_run (show 100 < k by omega) t k B l [] hb hd hl (by omega) (by simp; omega)
 refine ⟨C, m, done, ?_, h3⟩
 unfold pair_Run
 rw [h1]
 rfl
end Go.Ab.Gi
