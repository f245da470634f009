/- KnotRing. -/
import Derived.Test.YtdlamiafpciphaaGiPKnotAll
set_option linter.unusedVariables false
set_option linter.unusedSimpArgs false
namespace Go.Ab.Gi
open Go.Ab

def ringA (x y z : Int) : List Acc := [(x, 0, 0), (y, 0, 0), (z, 0, 0)]
def ringM : List (List Int) := [[-1, -1, -1], [-1, -1, -1], [-1, -1, -1]]
def ringP : List (List Int) := [[0, 0, 0], [0, 0, 0], [0, 0, 0]]
def ringB (x y z : Int) : BT := (ringA x y z, ringM, [-1, -1, -1], ringP)
def ringL (a b c : Int) : List PayT := [(1, 0, 1, a, 3, 0, 9), (2, 1, 2, b, 3, 0, 9), (3, 2, 0, c, 3, 0, 9)]

def num (b : Bool) : Int := bif b then 1 else 0
def numL (u v w : Bool) : List Int := [num u, num v, num w]

theorem ring_heads (a b c : Int) (u v w : Bool) : headsL (ringL a b c) (numL u v w) = (bif u then [(1, 0, 1, a, 3, 0, 9)] else []) ++ ((bif v then [(2, 1, 2, b, 3, 0, 9)] else []) ++ (bif w then [(3, 2, 0, c, 3, 0, 9)] else [])) := by
  cases u <;> cases v <;> cases w <;> simp [headsL, headsN, headAt, cnt, fromB, ringL, numL, num, pd]

/-- Who falls short, if so many go. -/
theorem ring_short (x y z a b c : Int) (ha : 1 ≤ a) (hb : 1 ≤ b) (hc : 1 ≤ c) (u v w : Bool) :
    shortF (ringB x y z) (headsL (ringL a b c) (numL u v w)) 0 = (u && bif w then decide (x + c < a) else decide (x < a)) ∧
    shortF (ringB x y z) (headsL (ringL a b c) (numL u v w)) 1 = (v && bif u then decide (y + a < b) else decide (y < b)) ∧
    shortF (ringB x y z) (headsL (ringL a b c) (numL u v w)) 2 = (w && bif v then decide (z + b < c) else decide (z < c)) := by
  rw [ring_heads]
  refine ⟨?_, ?_, ?_⟩ <;> cases u <;> cases v <;> cases w <;> rw [Bool.eq_iff_iff] <;>
    simp [shortF, shortB, bilOk, allF, sumL, sumN, gN, gR, gB, gS, dS, cell, keptZ, ringB, ringA, ringM, ringP, ad] <;> omega

/-- Is it out, by what is out ahead of it? -/
def nx (A A' p q : Bool) : Bool := p || bif q then A else A'

theorem ring_step0 (k n : Nat) (s13 x y z a b c : Int) (r2 : List Acc) (m3 : List (List Int)) (r4 : List Int) (m5 : List (List Int)) (p0 p1 p2 : Bool) :
    girolaw20_KnotRing_L1 k (n + 1) s13 0 (ringL a b c) r2 m3 r4 m5 [x, y, z] [p0, p1, p2] = girolaw20_KnotRing_L1 k n s13 1 (ringL a b c) r2 m3 r4 m5 [x, y, z] [nx (decide (w64 (x + 0) < a)) (decide (w64 (x + c) < a)) p0 p2, p1, p2] := by
  show girolaw20_KnotRing_L1b k _ s13 0 (ringL a b c) r2 m3 r4 m5 [x, y, z] [p0, p1, p2] = _
  unfold girolaw20_KnotRing_L1b
  cases p0 <;> cases p2 <;> rfl

theorem ring_step1 (k n : Nat) (s13 x y z a b c : Int) (r2 : List Acc) (m3 : List (List Int)) (r4 : List Int) (m5 : List (List Int)) (p0 p1 p2 : Bool) :
    girolaw20_KnotRing_L1 k (n + 1) s13 1 (ringL a b c) r2 m3 r4 m5 [x, y, z] [p0, p1, p2] = girolaw20_KnotRing_L1 k n s13 2 (ringL a b c) r2 m3 r4 m5 [x, y, z] [p0, nx (decide (w64 (y + 0) < b)) (decide (w64 (y + a) < b)) p1 p0, p2] := by
  show girolaw20_KnotRing_L1b k _ s13 1 (ringL a b c) r2 m3 r4 m5 [x, y, z] [p0, p1, p2] = _
  unfold girolaw20_KnotRing_L1b
  cases p0 <;> cases p1 <;> rfl

theorem ring_step2 (k n : Nat) (s13 x y z a b c : Int) (r2 : List Acc) (m3 : List (List Int)) (r4 : List Int) (m5 : List (List Int)) (p0 p1 p2 : Bool) :
    girolaw20_KnotRing_L1 k (n + 1) s13 2 (ringL a b c) r2 m3 r4 m5 [x, y, z] [p0, p1, p2] = girolaw20_KnotRing_L1 k n s13 3 (ringL a b c) r2 m3 r4 m5 [x, y, z] [p0, p1, nx (decide (w64 (z + 0) < c)) (decide (w64 (z + b) < c)) p2 p1] := by
  show girolaw20_KnotRing_L1b k _ s13 2 (ringL a b c) r2 m3 r4 m5 [x, y, z] [p0, p1, p2] = _
  unfold girolaw20_KnotRing_L1b
  cases p1 <;> cases p2 <;> rfl

def rnd (A A' C C' D D' : Bool) (p : Bool × Bool × Bool) : Bool × Bool × Bool :=
  (nx A A' p.1 p.2.2, nx C C' p.2.1 (nx A A' p.1 p.2.2), nx D D' p.2.2 (nx C C' p.2.1 (nx A A' p.1 p.2.2)))

theorem ring_round (k n : Nat) (s13 x y z a b c : Int) (r2 : List Acc) (m3 : List (List Int)) (r4 : List Int) (m5 : List (List Int)) (p : Bool × Bool × Bool) :
    girolaw20_KnotRing_L1 k (n + 4) s13 0 (ringL a b c) r2 m3 r4 m5 [x, y, z] [p.1, p.2.1, p.2.2] = some (s13, ringL a b c, r2, m3, r4, m5, [x, y, z],
      let q := rnd (decide (w64 (x + 0) < a)) (decide (w64 (x + c) < a)) (decide (w64 (y + 0) < b)) (decide (w64 (y + a) < b)) (decide (w64 (z + 0) < c)) (decide (w64 (z + b) < c)) p
      [q.1, q.2.1, q.2.2]) := by
  rw [ring_step0, ring_step1, ring_step2]
  rfl

theorem ring_rounds (x y z a b c : Int) (r2 : List Acc) (m3 : List (List Int)) (r4 : List Int) (m5 : List (List Int)) :
    girolaw20_KnotRing_L0 200 200 0 (ringL a b c) r2 m3 r4 m5 [x, y, z] [false, false, false] = some (ringL a b c, r2, m3, r4, m5,
      let f := rnd (decide (w64 (x + 0) < a)) (decide (w64 (x + c) < a)) (decide (w64 (y + 0) < b)) (decide (w64 (y + a) < b)) (decide (w64 (z + 0) < c)) (decide (w64 (z + b) < c))
      let q := f (f (f (false, false, false)))
      [q.1, q.2.1, q.2.2]) := by
  have step : ∀ (n : Nat) (i j : Int) (p : Bool × Bool × Bool), decide (i < 3) = true → w64 (i + 1) = j → girolaw20_KnotRing_L0 200 (n + 1) i (ringL a b c) r2 m3 r4 m5 [x, y, z] [p.1, p.2.1, p.2.2] = girolaw20_KnotRing_L0 200 n j (ringL a b c) r2 m3 r4 m5 [x, y, z]
      (let q := rnd (decide (w64 (x + 0) < a)) (decide (w64 (x + c) < a)) (decide (w64 (y + 0) < b)) (decide (w64 (y + a) < b)) (decide (w64 (z + 0) < c)) (decide (w64 (z + b) < c)) p
      [q.1, q.2.1, q.2.2]) := by
    intro n i j p hi hj
    show girolaw20_KnotRing_L0b 200 _ i (ringL a b c) r2 m3 r4 m5 [x, y, z] [p.1, p.2.1, p.2.2] = _
    unfold girolaw20_KnotRing_L0b
    rw [hi]
    simp only [cond_true]
    rw [ring_round 200 196]
    simp only [Option.bind_some, hj]
  rw [show ([false, false, false] : List Bool) = [(false, false, false).1, (false, false, false).2.1, (false, false, false).2.2] from rfl]
  rw [step 199 0 1 (false, false, false) rfl (by decide)]
  simp only
  rw [step 198 1 2 _ rfl (by decide)]
  simp only
  rw [step 197 2 3 _ rfl (by decide)]
  rfl

def al (f : Bool → Bool) : Bool := f true && f false
theorem al_iff {f : Bool → Bool} : al f = true ↔ ∀ b, f b = true := by
  unfold al
  rw [Bool.and_eq_true]
  exact ⟨fun h b => by cases b; exact h.2; exact h.1, fun h => ⟨h true, h false⟩⟩

/-- Nobody falls short. -/
def holds (A A' C C' D D' u v w : Bool) : Bool := !(u && bif w then A' else A) && (!(v && bif u then C' else C) && !(w && bif v then D' else D))

def rnd3 (A A' C C' D D' : Bool) : Bool × Bool × Bool := rnd A A' C C' D D' (rnd A A' C C' D D' (rnd A A' C C' D D' (false, false, false)))

def ringChk (A A' C C' D D' u v w : Bool) : Bool :=
  !(!A' || A) || (!(!C' || C) || (!(!D' || D) || (!holds A A' C C' D D' u v w || (!(al fun u' => al fun v' => al fun w' => !holds A A' C C' D D' u' v' w' || ((!u' || u) && ((!v' || v) && (!w' || w)))) ||
    (eqBool u (!(rnd3 A A' C C' D D').1) && (eqBool v (!(rnd3 A A' C C' D D').2.1) && eqBool w (!(rnd3 A A' C C' D D').2.2))))))) 

theorem ring_all : (al fun A => al fun A' => al fun C => al fun C' => al fun D => al fun D' => al fun u => al fun v => al fun w => ringChk A A' C C' D D' u v w) = true := by kernel_rfl

theorem ring_bools (A A' C C' D D' : Bool) (hA : A' = true → A = true) (hC : C' = true → C = true) (hD : D' = true → D = true) (u v w : Bool)
    (h1 : (u && bif w then A' else A) = false) (h2 : (v && bif u then C' else C) = false) (h3 : (w && bif v then D' else D) = false)
    (hg : ∀ u' v' w' : Bool, (u' && bif w' then A' else A) = false → (v' && bif u' then C' else C) = false → (w' && bif v' then D' else D) = false → (u' = true → u = true) ∧ (v' = true → v = true) ∧ (w' = true → w = true)) :
    u = (!(rnd3 A A' C C' D D').1) ∧ v = (!(rnd3 A A' C C' D D').2.1) ∧ w = (!(rnd3 A A' C C' D D').2.2) := by
  have h := al_iff.1 (al_iff.1 (al_iff.1 (al_iff.1 (al_iff.1 (al_iff.1 (al_iff.1 (al_iff.1 (al_iff.1 ring_all A) A') C) C') D) D') u) v) w
  have im : ∀ {x y : Bool}, (x = true → y = true) → (!x || y) = true := fun {x y} h => by cases x; rfl; rw [h rfl]; rfl
  have hh : holds A A' C C' D D' u v w = true := by unfold holds; rw [h1, h2, h3]; rfl
  have hal : (al fun u' => al fun v' => al fun w' => !holds A A' C C' D D' u' v' w' || ((!u' || u) && ((!v' || v) && (!w' || w)))) = true := by
    refine al_iff.2 fun u' => al_iff.2 fun v' => al_iff.2 fun w' => im fun e => ?_
    unfold holds at e
    rw [Bool.and_eq_true, Bool.and_eq_true, Bool.not_eq_true', Bool.not_eq_true', Bool.not_eq_true'] at e
    obtain ⟨k0, k1, k2⟩ := hg u' v' w' e.1 e.2.1 e.2.2
    rw [im k0, im k1, im k2]
    rfl
  unfold ringChk at h
  rw [im hA, im hC, im hD, hh, hal] at h
  simp only [Bool.not_true, Bool.false_or, Bool.and_eq_true] at h
  have eb : ∀ {x y : Bool}, eqBool x y = true → x = y := fun {x y} h => by cases x <;> cases y <;> first | rfl | cases h
  exact ⟨eb h.1, eb h.2.1, eb h.2.2⟩

theorem ring_books (x y z : Int) (hx : 0 ≤ x ∧ x ≤ 63) (hy : 0 ≤ y ∧ y ≤ 63) (hz : 0 ≤ z ∧ z ≤ 63) (s : List Int) (h : girolaw20_some 200 s 0 = some (ringA x y z, ringM, [-1, -1, -1], ringP)) : BooksT (ringB x y z) := by
  rw [some20_eq (by omega)] at h
  simp only [Option.some.injEq] at h
  have e : BooksT (sA s 0, sB 0, sM 0, sP 0) := some_books s 0
  rw [h] at e
  exact e

theorem ring_some (s : List Int) : girolaw20_some 200 s 0 = some (ringA (hv s 0) (hv s 1) (hv s 2), ringM, [-1, -1, -1], ringP) := by
  rw [some20_eq (by omega)]
  rfl

theorem ring_may {a b c : Int} (ha : 1 ≤ a ∧ a ≤ 100) (hb : 1 ≤ b ∧ b ≤ 100) (hc : 1 ≤ c ∧ c ≤ 100) : ∀ q ∈ ringL a b c, May 3 q := by
  intro p hp
  simp only [ringL, List.mem_cons, List.not_mem_nil, or_false] at hp
  rcases hp with rfl | rfl | rfl <;> constructor <;> first | omega | (simp; done) | (simp; omega)

theorem ring_ready (a b c : Int) : readyL (ringL a b c) 1 = ringL a b c := by
  simp [readyL, readyB, ringL]

theorem ring_many (a b c : Int) : manyL (ringL a b c) 3 = numL true true true := by
  simp [manyL, cnt, fromB, ringL, numL, num, List.range_succ]

theorem numL_le {u v w : Bool} {f : List Int} (h : LeM (numL u v w) f) : num u ≤ f.getD 0 0 ∧ num v ≤ f.getD 1 0 ∧ num w ≤ f.getD 2 0 := by
  have hl := h.1
  have e : (numL u v w).length = 3 := rfl
  rw [e] at hl
  exact ⟨h.2 0 (by omega), h.2 1 (by omega), h.2 2 (by omega)⟩

theorem knotRing (s : List Int) (a b c : Int) : girolaw20_KnotRing 200 s a b c = some true := by
  unfold girolaw20_KnotRing
  cases c1 : decide (a < 1) with
  | true => rfl
  | false =>
  cases c2 : decide (a > 100) with
  | true => rfl
  | false =>
  cases c3 : decide (b < 1) with
  | true => rfl
  | false =>
  cases c4 : decide (b > 100) with
  | true => rfl
  | false =>
  cases c5 : decide (c < 1) with
  | true => rfl
  | false =>
  cases c6 : decide (c > 100) with
  | true => rfl
  | false =>
  cases c7 : !(decide (((s.length : Nat) : Int) = 3)) with
  | true => rfl
  | false =>
  simp only [decide_eq_false_iff_not] at c1 c2 c3 c4 c5 c6
  have ha : 1 ≤ a ∧ a ≤ 100 := by omega
  have hb : 1 ≤ b ∧ b ≤ 100 := by omega
  have hc : 1 ≤ c ∧ c ≤ 100 := by omega
  have hx := hv_range s 0
  have hy := hv_range s 1
  have hz := hv_range s 2
  have hsome := ring_some s
  have hB := ring_books _ _ _ hx hy hz s hsome
  obtain ⟨x, ex⟩ : ∃ x, hv s 0 = x := ⟨_, rfl⟩
  obtain ⟨y, ey⟩ : ∃ x, hv s 1 = x := ⟨_, rfl⟩
  obtain ⟨z, ez⟩ : ∃ x, hv s 2 = x := ⟨_, rfl⟩
  rw [ex, ey, ez] at hsome hB
  rw [ex] at hx
  rw [ey] at hy
  rw [ez] at hz
  have hring : girolaw20_ring 200 1 = some (ringL 1 1 1) := by kernel_rfl
  rw [hring]
  simp only [cond_false, Option.bind_some]
  have b0 : boundOk 0 (ringL 1 1 1).length = true := rfl
  rw [b0]
  simp only [cond_true]
  show (bif boundOk 1 _ then (bif boundOk 2 (ringL a b 1).length then (girolaw20_some 200 s 0).bind _ else none) else none) = some true
  have b1 : ∀ l : List PayT, l.length = 3 → boundOk 1 l.length = true := fun l h => by rw [h]; rfl
  have b2 : boundOk 2 (ringL a b 1).length = true := rfl
  rw [b1 _ rfl, b2, hsome]
  simp only [cond_true, Option.bind_some]
  have d0 : boundOk 0 (ringA x y z).length = true := rfl
  have d1 : boundOk 1 (ringA x y z).length = true := rfl
  have d2 : boundOk 2 (ringA x y z).length = true := rfl
  rw [d0, d1, d2]
  simp only [cond_true]
  have hR := ring_rounds x y z a b c (ringA x y z) ringM [-1, -1, -1] ringP
  show (girolaw20_KnotRing_L0 200 200 0 (ringL a b c) (ringA x y z) ringM [-1, -1, -1] ringP [x, y, z] [false, false, false]).bind _ = some true
  rw [hR]
  simp only [Option.bind_some]
  obtain ⟨f, n, hSw, hn⟩ := most_is hB (l := ringL a b c) (ring_may ha hb hc) (by show 3 ≤ 64; omega) 1
  have hl3 : (ringL a b c).length = 3 := rfl
  rw [ring_ready] at hn
  have g1 := knot_Most_is (k := 200) (by omega) hB (l := ringL a b c) (ring_may ha hb hc) (by show 3 ≤ 64; omega) 1 (by omega) hSw
  have g1' : knot_Most 200 (ringA x y z) ringM [-1, -1, -1] ringP (ringL a b c) 1 = some (f, ((n + 1 : Nat) : Int)) := g1
  rw [g1']
  rw [ring_ready] at hSw
  have hSw' : Swept (ringB x y z) (ringL a b c) (manyL (ringL a b c) 3) f n := hSw
  rw [ring_many] at hSw'
  have hm3 : (numL true true true).length = (ringB x y z).1.length := rfl
  have hle := hSw'.le hm3
  have h0 := hSw'.nonneg (ring_may ha hb hc) hm3 (fun i => by
    match i with
    | 0 | 1 | 2 => show (0 : Int) ≤ 1; omega
    | i + 3 => show (0 : Int) ≤ 0; omega)
  have hfl : f.length = 3 := hle.1
  have hf : ∃ u v w, f = numL u v w := by
    match f, hfl with
    | [p, q, r], _ =>
      have e0 := hle.2 0 (by show 0 < 3; omega)
      have e1 := hle.2 1 (by show 1 < 3; omega)
      have e2 := hle.2 2 (by show 2 < 3; omega)
      have z0 := h0 0
      have z1 := h0 1
      have z2 := h0 2
      have e0' : p ≤ 1 := e0
      have e1' : q ≤ 1 := e1
      have e2' : r ≤ 1 := e2
      have z0' : 0 ≤ p := z0
      have z1' : 0 ≤ q := z1
      have z2' : 0 ≤ r := z2
      have mk : ∀ x : Int, 0 ≤ x → x ≤ 1 → ∃ u, x = num u := fun x h1 h2 => by
        by_cases c : x = 0
        · exact ⟨false, c⟩
        · exact ⟨true, by show x = 1; omega⟩
      obtain ⟨u, hu⟩ := mk p z0' e0'
      obtain ⟨v, hv⟩ := mk q z1' e1'
      obtain ⟨w, hw⟩ := mk r z2' e2'
      exact ⟨u, v, w, by rw [hu, hv, hw]; rfl⟩
  obtain ⟨u, v, w, rfl⟩ := hf
  have hfin := shortT_nil.1 hSw'.final
  obtain ⟨q0, q1, q2⟩ := ring_short x y z a b c ha.1 hb.1 hc.1 u v w
  have f0 := (hfin 0 (by show 0 < 3; omega)).symm.trans q0
  have f1 := (hfin 1 (by show 1 < 3; omega)).symm.trans q1
  have f2 := (hfin 2 (by show 2 < 3; omega)).symm.trans q2
  have hgr : ∀ u' v' w' : Bool, (u' && bif w' then decide (x + c < a) else decide (x < a)) = false → (v' && bif u' then decide (y + a < b) else decide (y < b)) = false → (w' && bif v' then decide (z + b < c) else decide (z < c)) = false → (u' = true → u = true) ∧ (v' = true → v = true) ∧ (w' = true → w = true) := by
    intro u' v' w' k0 k1 k2
    obtain ⟨t0, t1, t2⟩ := ring_short x y z a b c ha.1 hb.1 hc.1 u' v' w'
    have hL : LeM (numL u' v' w') (numL true true true) := ⟨rfl, fun i hi => by
      have : i = 0 ∨ i = 1 ∨ i = 2 := by have : i < 3 := hi; omega
      rcases this with rfl | rfl | rfl
      · show num u' ≤ 1; cases u' <;> decide
      · show num v' ≤ 1; cases v' <;> decide
      · show num w' ≤ 1; cases w' <;> decide⟩
    have hg := numL_le (hSw'.greatest (ring_may ha hb hc) hm3 hL (shortT_nil.2 fun j hj => by
      have : j = 0 ∨ j = 1 ∨ j = 2 := by have : j < 3 := hj; omega
      rcases this with rfl | rfl | rfl
      · exact t0.trans k0
      · exact t1.trans k1
      · exact t2.trans k2))
    have g0 : num u' ≤ num u := hg.1
    have g1 : num v' ≤ num v := hg.2.1
    have g2 : num w' ≤ num w := hg.2.2
    refine ⟨fun e => ?_, fun e => ?_, fun e => ?_⟩
    · subst e; cases u
      · exact absurd g0 (by decide)
      · rfl
    · subst e; cases v
      · exact absurd g1 (by decide)
      · rfl
    · subst e; cases w
      · exact absurd g2 (by decide)
      · rfl
  have hq := ring_bools (decide (x < a)) (decide (x + c < a)) (decide (y < b)) (decide (y + a < b)) (decide (z < c)) (decide (z + b < c))
    (fun e => decide_eq_true (by have := of_decide_eq_true e; omega)) (fun e => decide_eq_true (by have := of_decide_eq_true e; omega)) (fun e => decide_eq_true (by have := of_decide_eq_true e; omega)) u v w f0.symm f1.symm f2.symm hgr
  unfold rnd3 at hq
  have w1 : w64 (x + 0) = x := by rw [Int.add_zero]; exact w64_id (by omega) (by omega)
  have w2 : w64 (y + 0) = y := by rw [Int.add_zero]; exact w64_id (by omega) (by omega)
  have w3 : w64 (z + 0) = z := by rw [Int.add_zero]; exact w64_id (by omega) (by omega)
  have w4 : w64 (x + c) = x + c := w64_id (by omega) (by omega)
  have w5 : w64 (y + a) = y + a := w64_id (by omega) (by omega)
  have w6 : w64 (z + b) = z + b := w64_id (by omega) (by omega)
  simp only [Option.bind_some, w1, w2, w3, w4, w5, w6]
  have hL2 : ∀ o0 o1 o2 : Bool, u = (!o0) → v = (!o1) → w = (!o2) → girolaw20_KnotRing_L2 200 200 0 [o0, o1, o2] (numL u v w) = some (.inl ()) := by
    intro o0 o1 o2 e0 e1 e2
    subst e0; subst e1; subst e2
    cases o0 <;> cases o1 <;> cases o2 <;> kernel_rfl
  have e3 : decide ((((numL u v w).length : Nat) : Int) = 3) = true := rfl
  rw [e3]
  simp only [Bool.not_true, cond_false]
  rw [hL2 _ _ _ hq.1 hq.2.1 hq.2.2]
  simp only [Option.bind_some, known20']
end Go.Ab.Gi
