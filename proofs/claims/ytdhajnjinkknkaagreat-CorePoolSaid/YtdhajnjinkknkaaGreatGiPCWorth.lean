/- part 18 -/
import Derived.Test.YtdhajnjinkknkaaGreatGiPCash
set_option linter.unusedVariables false
set_option linter.unusedSimpArgs false
namespace Go.Ab.Gi
open Go.Ab
theorem bandU {x : Int} (h : 0 ≤ x) : band .u64 x 4294967295 = x % 4294967296 := by
 obtain ⟨n, rfl⟩ := Int.eq_ofNat_of_zero_le h
 unfold band bits2
 rw [wrapU]
 have e1 : (BitVec.ofInt IntKind.u64.bits (n : Int) &&& BitVec.ofInt IntKind.u64.bits 4294967295).toNat = n % 4294967296 := by
  rw [BitVec.toNat_and, BitVec.toNat_ofInt, BitVec.toNat_ofInt]
  have e2 : ((4294967295 : Int) % ((2 ^ IntKind.u64.bits : Nat) : Int)).toNat = 2 ^ 32 - 1 := by decide
  rw [e2, Nat.and_two_pow_sub_one_eq_mod]
  have e3 : ((n : Int) % ((2 ^ IntKind.u64.bits : Nat) : Int)).toNat = n % 18446744073709551616 := by
   show ((n : Int) % ((18446744073709551616 : Nat) : Int)).toNat = _
   omega
  rw [e3]
  show n % 18446744073709551616 % 4294967296 = _
  omega
 rw [e1]
 omega
theorem shrU (x : Int) : shr .u64 x 32 = x / 4294967296 := by
 show x.fdiv (2 ^ (min 32 64)) = _
 rw [Int.fdiv_eq_ediv_of_nonneg _ (by decide)]
 rfl
theorem mul_split {a1 a0 b1 b0 : Int} : (a1 * 4294967296 + a0) * (b1 * 4294967296 + b0) = a1 * b1 * 18446744073709551616 + (a1 * b0 + a0 * b1) * 4294967296 + a0 * b0 := by
 rw [Int.add_mul, Int.mul_add, Int.mul_add]
 have e1 : a1 * 4294967296 * (b1 * 4294967296) = a1 * b1 * 18446744073709551616 := by
  rw [Int.mul_assoc, ← Int.mul_assoc 4294967296 b1, Int.mul_comm 4294967296 b1, Int.mul_assoc b1, ← Int.mul_assoc]; rfl
 have e2 : a1 * 4294967296 * b0 = a1 * b0 * 4294967296 := by rw [Int.mul_assoc, Int.mul_comm 4294967296 b0, ← Int.mul_assoc]
 have e3 : a0 * (b1 * 4294967296) = a0 * b1 * 4294967296 := by rw [← Int.mul_assoc]
 rw [e1, e2, e3]
 omega
theorem mul_le_of {a b A B : Int} (h0 : 0 ≤ a) (h1 : a ≤ A) (g0 : 0 ≤ b) (g1 : b ≤ B) : 0 ≤ a * b ∧ a * b ≤ A * B :=
 ⟨Int.mul_nonneg h0 g0, Int.mul_le_mul h1 g1 g0 (by omega)⟩
theorem mul64_eq (k : Nat) {x y : Int} (hx : 0 ≤ x ∧ x < 18446744073709551616) (hy : 0 ≤ y ∧ y < 18446744073709551616) : math_bits_Mul64 k x y = some (x * y / 18446744073709551616, x * y % 18446744073709551616) := by
 unfold math_bits_Mul64
 simp only [shrU, bandU hx.1, bandU hy.1, wrapU]
 obtain ⟨a1, h1⟩ : ∃ a, x / 4294967296 = a := ⟨_, rfl⟩
 obtain ⟨a0, h0⟩ : ∃ a, x % 4294967296 = a := ⟨_, rfl⟩
 obtain ⟨b1, g1⟩ : ∃ a, y / 4294967296 = a := ⟨_, rfl⟩
 obtain ⟨b0, g0⟩ : ∃ a, y % 4294967296 = a := ⟨_, rfl⟩
 have hxe : x = a1 * 4294967296 + a0 := by omega
 have hye : y = b1 * 4294967296 + b0 := by omega
 rw [h1, h0, g1, g0]
 have ha1 : 0 ≤ a1 ∧ a1 ≤ 4294967295 := by omega
 have ha0 : 0 ≤ a0 ∧ a0 ≤ 4294967295 := by omega
 have hb1 : 0 ≤ b1 ∧ b1 ≤ 4294967295 := by omega
 have hb0 : 0 ≤ b0 ∧ b0 ≤ 4294967295 := by omega
 have p11 := mul_le_of ha1.1 ha1.2 hb1.1 hb1.2
 have p10 := mul_le_of ha1.1 ha1.2 hb0.1 hb0.2
 have p01 := mul_le_of ha0.1 ha0.2 hb1.1 hb1.2
 have p00 := mul_le_of ha0.1 ha0.2 hb0.1 hb0.2
 have hxy : x * y = a1 * b1 * 18446744073709551616 + (a1 * b0 + a0 * b1) * 4294967296 + a0 * b0 := by rw [hxe, hye, mul_split]
 rw [hxy]
 generalize a1 * b1 = u at *
 generalize a1 * b0 = v at *
 generalize a0 * b1 = s at *
 generalize a0 * b0 = t at *
 have c1 : (t % 18446744073709551616) = t := by omega
 have c2 : (v % 18446744073709551616 + t / 4294967296) % 18446744073709551616 = v + t / 4294967296 := by omega
 rw [c1, c2]
 have hband : band .u64 (v + t / 4294967296) 4294967295 = (v + t / 4294967296) % 4294967296 := bandU (by omega)
 rw [hband]
 refine congrArg some (Prod.ext ?_ ?_)
 ·show _ % _ = _ / _
  omega
 ·rfl
theorem div64_small (k : Nat) {x : Int} (hx : 0 ≤ x ∧ x < 18446744073709551616) : math_bits_Div64 k 0 x 10000 = some (x / 10000, x % 10000) := by
 unfold math_bits_Div64
 have e1 : decide ((10000 : Int) = 0) = false := rfl
 have e2 : decide ((10000 : Int) ≤ 0) = false := rfl
 simp only [e1, e2, decide_true, cond_false, cond_true, Bool.not_false, wrapU]
 rw [Int.tdiv_eq_ediv_of_nonneg hx.1, Int.tmod_eq_emod_of_nonneg hx.1]
 have : x / 10000 % 18446744073709551616 = x / 10000 := by omega
 rw [this]
def worthI (price many cut : Int) : Int := price * many * (10000 - cut) / 10000
theorem worthI_le {p m c : Int} (hp : 0 ≤ p ∧ p ≤ 1048576) (hm : 0 ≤ m ∧ m ≤ 1099511627776) (hc : 0 ≤ c ∧ c ≤ 10000) : 0 ≤ worthI p m c ∧ worthI p m c ≤ 1152921504606846976 := by
 have h1 := mul_le_of hp.1 hp.2 hm.1 hm.2
 have h2 := mul_le_of h1.1 h1.2 (show 0 ≤ 10000 - c by omega) (show 10000 - c ≤ 10000 by omega)
 unfold worthI
 generalize p * m * (10000 - c) = z at *
 omega
theorem cash_Worth_eq (k : Nat) {p m c : Int} (hp : 0 ≤ p ∧ p ≤ 1048576) (hm : 0 ≤ m ∧ m ≤ 1099511627776) (hc : 0 ≤ c ∧ c ≤ 10000) : cash_Worth k p m c = some (worthI p m c, true) := by
 unfold cash_Worth cash_isCut
 have w1 : w64 (10000 - c) = 10000 - c := w64_id (by omega) (by omega)
 have e1 : decide (p < 0) = false := decide_eq_false (by omega)
 have e2 : decide (m < 0) = false := decide_eq_false (by omega)
 have e3 : decide (c ≥ 0) = true := decide_eq_true (by omega)
 have e4 : decide (c ≤ 10000) = true := decide_eq_true (by omega)
 have u1 : p % 18446744073709551616 = p := by omega
 have u2 : m % 18446744073709551616 = m := by omega
 have u3 : (10000 - c) % 18446744073709551616 = 10000 - c := by omega
 have h1 := mul_le_of hp.1 hp.2 hm.1 hm.2
 have hP : p * m / 18446744073709551616 = 0 := by omega
 have hP2 : p * m % 18446744073709551616 = p * m := by omega
 have t0 : Int.tmod 0 10000 = 0 := by simp
 have t1 : Int.tdiv 0 10000 = 0 := by simp
 rw [e1, e2, e3, e4, cond_false, cond_false, cond_true, Option.bind_some, Bool.not_true, cond_false, wrapU p, wrapU m, u1, u2, mul64_eq k (show 0 ≤ p ∧ p < 18446744073709551616 by omega) (show 0 ≤ m ∧ m < 18446744073709551616 by omega), Option.bind_some, hP, hP2]
 dsimp only
 rw [t0, t1, div64_small k (show 0 ≤ p * m ∧ p * m < 18446744073709551616 by omega), Option.bind_some]
 dsimp only
 rw [w1, wrapU (10000 - c), u3]
 unfold worthI
 obtain ⟨l, hl⟩ : ∃ l, 10000 - c = l := ⟨_, rfl⟩
 rw [hl]
 obtain ⟨P, hPe⟩ : ∃ P, p * m = P := ⟨_, rfl⟩
 rw [hPe] at h1 ⊢
 have hl' : 0 ≤ l ∧ l ≤ 10000 := by omega
 rw [mul64_eq k (show 0 ≤ P / 10000 ∧ P / 10000 < 18446744073709551616 by omega) (show 0 ≤ l ∧ l < 18446744073709551616 by omega)]
 have hq := mul_le_of (show 0 ≤ P / 10000 by omega) (show P / 10000 ≤ 115292150460684 by omega) hl'.1 hl'.2
 have hr := mul_le_of (show 0 ≤ P % 10000 by omega) (show P % 10000 ≤ 9999 by omega) hl'.1 hl'.2
 have hsplit : P * l = P / 10000 * l * 10000 + P % 10000 * l := by
  have : P = P / 10000 * 10000 + P % 10000 := by omega
  have e : P / 10000 * l * 10000 = P / 10000 * 10000 * l := by rw [Int.mul_assoc, Int.mul_comm l, ← Int.mul_assoc]
  rw [e, ← Int.add_mul, ← this]
 rw [hsplit]
 generalize P / 10000 * l = a at *
 generalize P % 10000 * l = b at *
 have v1 : a / 18446744073709551616 = 0 := by omega
 have v2 : a % 18446744073709551616 = a := by omega
 have v3 : b % 18446744073709551616 = b := by omega
 have v4 : Int.tdiv b 10000 = b / 10000 := Int.tdiv_eq_ediv_of_nonneg hr.1
 have v5 : b / 10000 % 18446744073709551616 = b / 10000 := by omega
 have ha : add64 k a (b / 10000) 0 = some (a + b / 10000, 0) := by
  have n1 : (Int.ofNat ((a.toNat + (b / 10000).toNat + 0) % 18446744073709551616)) = a + b / 10000 := by rw [Int.ofNat_eq_natCast]; omega
  have n2 : (Int.ofNat ((a.toNat + (b / 10000).toNat + 0) / 18446744073709551616)) = 0 := by rw [Int.ofNat_eq_natCast]; omega
  unfold add64
  rw [decide_eq_true rfl, cond_true, n1, n2]
 rw [Option.bind_some]
 dsimp only
 rw [v1, v2, wrapU b, v3, v4, wrapU (b / 10000), v5, ha, Option.bind_some]
 dsimp only
 have z1 : IntKind.wrap .u64 0 = 0 := by rw [wrapU]; omega
 have z2 : IntKind.wrap .u64 (0 + 0) = 0 := by rw [wrapU]; omega
 have z3 : decide ((0 : Int) > 0) = false := decide_eq_false (by omega)
 have z4 : decide (a + b / 10000 > 9223372036854775807) = false := decide_eq_false (by omega)
 have z5 : w64 (a + b / 10000) = a + b / 10000 := w64_id (by omega) (by omega)
 rw [z1, z2, z3, z4, z5, cond_false, cond_false, cond_false]
 have : (a * 10000 + b) / 10000 = a + b / 10000 := by omega
 rw [this]
abbrev AssetT := Int × Int
abbrev assD : AssetT := (0, 0)
def worthAt (sa : List AssetT) (pr h : List Int) (i : Nat) : Int := worthI (pr.getD i 0) (h.getD i 0) (sa.getD i assD).2
def valueI (sa : List AssetT) (pr h : List Int) : Int := sumN (worthAt sa pr h) sa.length
structure Laid (sa : List AssetT) (pr h : List Int) : Prop where
 n3 : sa.length ≤ 3
 pl : pr.length = sa.length
 hl : h.length = sa.length
 cut : ∀ i, i < sa.length → 0 ≤ (sa.getD i assD).2 ∧ (sa.getD i assD).2 ≤ 10000
 price : ∀ i, i < sa.length → 0 ≤ pr.getD i 0 ∧ pr.getD i 0 ≤ 1048576
 hold : ∀ i, i < sa.length → 0 ≤ h.getD i 0 ∧ h.getD i 0 ≤ 1099511627776
theorem worthAt_le {sa : List AssetT} {pr h : List Int} (L : Laid sa pr h) {i : Nat} (hi : i < sa.length) : 0 ≤ worthAt sa pr h i ∧ worthAt sa pr h i ≤ 1152921504606846976 := worthI_le (L.price i hi) (L.hold i hi) (L.cut i hi)
theorem sumN_range (g : Nat → Int) : ∀ n, sumI ((List.range n).map g) = sumN g n
 | 0 => rfl
 | n + 1 => by
  rw [List.range_succ, List.map_append]
  unfold sumI
  rw [sumL_append]
  have := sumN_range g n
  unfold sumI at this
  rw [this]
  show sumN g n + (g n + 0) = sumN g n + g n
  omega
theorem sumN_bound {g : Nat → Int} {A : Int} : ∀ {n : Nat}, (∀ j, j < n → 0 ≤ g j ∧ g j ≤ A) → 0 ≤ sumN g n ∧ sumN g n ≤ n * A
 | 0, _ => by simp [sumN]
 | n + 1, h => by
  have h1 := sumN_bound (n := n) (fun j hj => h j (by omega))
  have h2 := h n (by omega)
  have h3 : ((n + 1 : Nat) : Int) * A = n * A + A := by rw [Int.natCast_add, Int.add_mul]; simp
  rw [h3]
  show 0 ≤ sumN g n + g n ∧ sumN g n + g n ≤ _
  omega
theorem value_loop {k : Nat} {sa : List AssetT} {pr h : List Int} (L : Laid sa pr h) (hk : 10 ≤ k) : pool_Value_L0 k k pr h sa sa.length 0 [] = some (.inl ((List.range sa.length).map (worthAt sa pr h))) := by
 have hn := L.n3
 obtain ⟨s', h1, h2⟩ := carryE0 (L := fun n i (s : List Int) => pool_Value_L0 k n pr h sa sa.length i s) (N := sa.length) (fun s => .inl s) (fun i s => s = (List.range i).map (worthAt sa pr h)) (fun n s _ => by
  show pool_Value_L0b k _ pr h sa sa.length sa.length s = _
  unfold pool_Value_L0b
  simp only [dec_lt, decide_eq_false (Nat.lt_irrefl _), cond_false]) (fun n i s hi hs => by
  refine ⟨s ++ [worthAt sa pr h i], ?_, ?_⟩
  ·show pool_Value_L0b k _ pr h sa sa.length i s = _
   unfold pool_Value_L0b
   have hsl : s.length ≤ 3 := by rw [hs, List.length_map, List.length_range]; omega
   have hw := cash_Worth_eq k (L.price i hi) (L.hold i hi) (L.cut i hi)
   simp only [dec_lt, boundOk_nat, Int.toNat_natCast, decide_eq_true hi, decide_eq_true (show i < pr.length by rw [L.pl]; exact hi), decide_eq_true (show i < h.length by rw [L.hl]; exact hi), cond_true, w64_succ hi (show sa.length < 9223372036854775808 by omega)]
   rw [hw]
   simp only [Option.bind_some, Bool.not_true, cond_false, roomB_true (show (s.length + 1) * 8 ≤ 70368744177664 by omega) (show s.length + 1 ≤ 70368744177664 by omega), cond_true]
   rfl
  ·rw [hs, List.range_succ, List.map_append]; rfl) (s := []) (show sa.length < k by omega) rfl
 have h1' : pool_Value_L0 k k pr h sa sa.length 0 [] = _ := h1
 rw [h1', h2]
theorem pool_Value_eq {k : Nat} {sa : List AssetT} {pr h : List Int} (L : Laid sa pr h) (hk : 10 ≤ k) : pool_Value k sa pr h = some (valueI sa pr h, true) := by
 have hn := L.n3
 have hb := sumN_bound (g := worthAt sa pr h) (n := sa.length) (fun j hj => worthAt_le L hj)
 have hm : (sa.length : Int) * 1152921504606846976 ≤ 3 * 1152921504606846976 := Int.mul_le_mul_of_nonneg_right (by omega) (by decide)
 unfold pool_Value
 have e1 : decide ((pr.length : Int) = (sa.length : Int)) = true := decide_eq_true (by rw [L.pl])
 have e2 : decide ((h.length : Int) = (sa.length : Int)) = true := decide_eq_true (by rw [L.hl])
 simp only [e1, e2, Bool.not_true, cond_false]
 rw [value_loop L hk]
 simp only [Option.bind_some]
 rw [cash_Sum_eq (by rw [List.length_map, List.length_range]; omega) (by rw [List.length_map, List.length_range]; omega) (fun i hi => by
  rw [List.length_map, List.length_range] at hi
  have := worthAt_le L hi
  have e : ((List.range sa.length).map (worthAt sa pr h)).getD i 0 = worthAt sa pr h i := by
   rw [List.getD_eq_getElem?_getD, List.getElem?_map, List.getElem?_range hi]; rfl
  rw [e]; omega)]
 rw [sumN_range]
 have e3 : in64 (sumN (worthAt sa pr h) sa.length) = true := by
  unfold in64
  rw [decide_eq_true (by omega), decide_eq_true (by omega)]; rfl
 rw [e3]
 rfl
theorem valueI_le {sa : List AssetT} {pr h : List Int} (L : Laid sa pr h) : 0 ≤ valueI sa pr h := (sumN_bound (g := worthAt sa pr h) (n := sa.length) (fun j hj => worthAt_le L hj)).1
theorem pool_Set_eq {k : Nat} {l : List Int} (hl : l.length ≤ 1000) {i : Int} (h0 : 0 ≤ i) (h1 : i < l.length) (v : Int) : pool_Set k l i v = some (l.set i.toNat v) := by
 unfold pool_Set
 have e2 : slices_Clone_int64 k l = some l := by
  unfold slices_Clone_int64
  rw [roomB_true (by omega) (by omega)]
  rfl
 simp only [e2, Option.bind_some, decide_eq_true (show i ≥ 0 by omega), decide_eq_true h1, cond_true, boundOk_true h0 h1]
end Go.Ab.Gi
