/- append in all its forms; copy, len, max; nil; maps are left out. -/
import Derived.Test.YtpmkkfbnaohlhaaGiAb12
set_option linter.unusedVariables false
set_option linter.unusedSimpArgs false
namespace Go.Ab

theorem yields_unless {c : Bool} {s : Sres} {v : AVal} {u : Upd} (h : Yields (bif c then .stuck else s) v u) : c = false ∧ Yields s v u := by
  cases c with
  | true => exact h.elim
  | false => exact ⟨rfl, h⟩
theorem yields_if {c : Bool} {s : Sres} {v : AVal} {u : Upd} (h : Yields (bif c then s else .stuck) v u) : c = true ∧ Yields s v u := by
  cases c with
  | true => exact ⟨rfl, h⟩
  | false => exact h.elim

theorem appendS_sound {P : Program} {M : Mst} {w : World} (ok : Ok M) (hM : M.H = w.heap) {mat : Bool} {nm : Nat} {t T : TypeId} {b x v : AVal} {u : Upd} {rb rx : Value}
    (hb : VRep M b rb) (hx : VRep M x rx) (h : Yields (appendS P mat nm M.h t b x) v u) : RunsV P (Builtin.append_ #[t, t] T #[rb, rx]) M w v u := by
  unfold appendS at h
  split at h
  case h_2 => exact h.elim
  rename_i e b x hu hnm
  replace hb : CRep M b rb := hb
  replace hx : CRep M x rx := hx
  split at h
  · exact h.elim
  rename_i ty hty
  dsimp only at h
  cases mat with
  | true =>
    simp only [cond_true] at h
    split at h
    · rename_i id jd
      split at h
      · rename_i v1 xs v2 ys hid hjd
        cases hne : Nat.beq id jd with
        | true => rw [hne] at h; exact h.elim
        | false =>
          rw [hne] at h
          obtain ⟨hr, rfl, rfl⟩ := yields_alt h
          exact appendS_mat ok hM hu hty hnm hid hjd (fun e => by subst e; simp at hne) hb hx (roomOk hr)
      · exact h.elim
    · exact h.elim
  | false =>
    simp only [cond_false] at h
    split at h
    · split at h
      · rename_i ys u1 ht
        obtain ⟨hr, rfl, rfl⟩ := yields_alt h
        obtain ⟨rfl, news, h1, h2⟩ := tailOf_sound ok hx ht
        rw [show rb = .slice none 0 0 from hb]
        exact appendS_nil ok hM hu hty hnm h1 h2 (roomOk hr)
      · exact h.elim
    · rename_i id r
      split at h
      · rename_i s xs hid
        split at h
        · rename_i zs ys u1 hz ht
          obtain ⟨e1, hz⟩ := castL_some hz
          subst e1
          subst hz
          obtain ⟨rfl, news, h1, h2⟩ := tailOf_sound ok hx ht
          split at h
          · obtain ⟨hr, rfl, rfl⟩ := yields_alt (yields_unless h).2
            exact appendS_own ok hM hu hty hnm hid hb rfl h1 h2 (roomOk hr)
          · obtain ⟨hr, rfl, rfl⟩ := yields_alt (yields_unless h).2
            exact appendS_own ok hM hu hty hnm hid hb trivial h1 h2 (roomOk hr)
          · exact h.elim
        · exact h.elim
      · exact h.elim
    · exact h.elim

/-! ### What a slice reads -/
theorem readSl_sound {M : Mst} (ok : Ok M) {c : CVal} {v : Value} {t : Ty} {ys : List t.den} (hv : CRep M c v) (h : readSl M.h c = some ⟨t, ys⟩) (ht : t = .int .i64) :
    ∃ news, Rd M.H v ys.length t.size news ∧ ∃ F, ∀ i (hi : i < ys.length), ERep M.H F t ys[i] (fun j => news[i * t.size + j]?) := by
  unfold readSl at h
  split at h
  · rename_i sh s xs
    cases h
    obtain ⟨news, h1, h2⟩ := rd_fsl hv
    exact ⟨news, h1, _, h2⟩
  · rename_i id r
    split at h
    · rename_i own s xs hid
      cases h
      obtain ⟨C, hC, hO⟩ := ok.obj _ _ hid
      obtain ⟨news, h1, h2⟩ := rd_osl hC hO hv
      exact ⟨news, h1, _, h2⟩
    · cases r with
      | none => cases h; cases ht
      | some p => cases h
    · cases h
  · rename_i id i ver
    split at h
    · rename_i v' xs hid
      cases hver : Nat.beq v' ver with
      | false => rw [hver] at h; cases h
      | true =>
        rw [hver] at h
        cases h
        have e : v' = ver := by simpa using hver
        subst e
        obtain ⟨C, hC, hO⟩ := ok.obj _ _ hid
        obtain ⟨C', hC', hone, _, hrow⟩ := hv
        rw [hC] at hC'; cases hC'
        obtain ⟨rb, rl, hr1, hr2⟩ := hrow hO.1
        by_cases hi : i < xs.length
        · obtain ⟨B, rb', v2, k1, k2, k3, k4, k5, k6⟩ := mat_row hO hi
          rw [hr1] at k3
          cases k3
          rw [show xs.getD i [] = xs[i] by simp [List.getD, hi]]
          cases rb with
          | none =>
            obtain ⟨rfl, h0⟩ := hr2
            have hnil : xs[i] = [] := List.eq_nil_of_length_eq_zero h0
            rw [hnil]
            obtain ⟨news, q1, q2⟩ := rd_nil (H := M.H) (F := M.G) (t := .int .i64) (A := none) (c := 0)
            exact ⟨news, q1, _, q2⟩
          | some R =>
            obtain ⟨a, c, rfl, h1, h2, h3⟩ := hr2
            by_cases h0 : xs[i].length = 0
            · have hnil : xs[i] = [] := List.eq_nil_of_length_eq_zero h0
              rw [hnil]
              obtain ⟨news, q1, q2⟩ := rd_nil (H := M.H) (F := M.G) (t := .int .i64) (A := some ⟨R, a, none⟩) (c := c)
              exact ⟨news, q1, _, q2⟩
            · have ha : a = 0 := by rcases h2 with h | h <;> omega
              subst ha
              obtain ⟨news, q1, q2⟩ := rd_block (H := M.H) (F := fun _ => True) (t := .int .i64) (ys := xs[i]) (B := R) (o := 0) (c := c) h1 (fun j hj => by
                simp only [ERep, Ty.size, Nat.zero_add, Nat.mul_one, Nat.add_zero]
                exact k6 R rfl j hj)
              exact ⟨news, q1, _, q2⟩
        · have : C.rows[i]? = none := List.getElem?_eq_none (by have := hO.2.2.2.1; omega)
          rw [this] at hr1; cases hr1
    · cases h
  · cases h

theorem readSl_len {M : Mst} (ok : Ok M) {c : CVal} {v : Value} {t : Ty} {ys : List t.den} (hv : CRep M c v) (h : readSl M.h c = some ⟨t, ys⟩) : ∃ A k, v = .slice A ys.length k := by
  by_cases ht : t = .int .i64
  · obtain ⟨news, ⟨A, k, e, _⟩, _⟩ := readSl_sound ok hv h ht
    exact ⟨A, k, e⟩
  unfold readSl at h
  split at h
  · cases h
    obtain ⟨news, ⟨A, k, e, _⟩, _⟩ := rd_fsl hv
    exact ⟨A, k, e⟩
  · rename_i id r
    split at h
    · rename_i own s xs hid
      cases h
      obtain ⟨C, hC, hO⟩ := ok.obj _ _ hid
      obtain ⟨news, ⟨A, k, e, _⟩, _⟩ := rd_osl hC hO hv
      exact ⟨A, k, e⟩
    · rename_i ver xs hid
      cases r with
      | none =>
        cases h
        obtain ⟨C, hC, hO⟩ := ok.obj _ _ hid
        obtain ⟨C', hC', A, k, e, _⟩ := hv
        rw [hC] at hC'; cases hC'
        exact ⟨A, k, by rw [e, hO.2.1]⟩
      | some p => cases h
    · cases h
  · rename_i id i ver
    split at h
    · cases hver : Nat.beq _ ver with
      | false => rw [hver] at h; cases h
      | true => rw [hver] at h; cases h; exact absurd rfl ht
    · cases h
  · cases h

theorem lenSl_sound {M : Mst} (ok : Ok M) {c : CVal} {v : Value} {n : Nat} (hv : CRep M c v) (h : lenSl M.h c = some n) : ∃ A k, v = .slice A n k := by
  unfold lenSl at h
  split at h
  · cases h; exact ⟨none, 0, hv⟩
  · cases h
    obtain ⟨C, B, _, _, e⟩ := hv
    exact ⟨_, _, e⟩
  · split at h
    · rename_i t xs hr
      cases h
      exact readSl_len ok hv hr
    · cases h

theorem run_len {P : Program} {w : World} {t e : TypeId} {A : Option Addr} {n k : Nat} {T : TypeId} {ts : Array TypeId} (h0 : ts[0]? = some t) (hu : P.underlying t = some (.slice e)) :
    (Builtin.len_ ts T #[.slice A n k]).run P w = .ok (.int .i64 n) w := by
  have hr : (underlying t).run P w = .ok (.slice e) w := by simp [underlying, hu]
  simp [Builtin.len_, h0, hr, goInt]

theorem maxS_sound {P : Program} {M : Mst} {w : World} (ok : Ok M) (hM : M.H = w.heap) {lt : Bool} {l : List AVal} {rl : Array Value} {v : AVal} {u : Upd} {ts : Array TypeId} {T : TypeId} (hl : All2 (VRep M) l rl.toList)
    (h : Yields (maxS lt l) v u) : RunsV P (bif lt then Builtin.min_ ts T rl else Builtin.max_ ts T rl) M w v u := by
  unfold maxS at h
  split at h
  · rename_i k x j y
    obtain ⟨rfl, rfl⟩ := yields_one h
    obtain ⟨rl⟩ := rl
    match rl, hl with
    | [a, b], ⟨h1, h2, _⟩ =>
      rw [show a = .int k x from h1, show b = .int j y from h2]
      refine .pure (rv := .int k (bif lt then (bif decide (y < x) then y else x) else (bif decide (y > x) then y else x))) ok hM ?_ rfl
      cases lt <;> simp [Builtin.min_, Builtin.max_, Builtin.min2, Builtin.max2, Bool.cond_decide]
  · rename_i k x j y i z
    obtain ⟨rfl, rfl⟩ := yields_one h
    obtain ⟨rl⟩ := rl
    match rl, hl with
    | [a, b, c], ⟨h1, h2, h3, _⟩ =>
      rw [show a = .int k x from h1, show b = .int j y from h2, show c = .int i z from h3]
      refine .pure (rv := _) ok hM ?_ rfl
      cases lt <;> simp [Builtin.min_, Builtin.max_, Builtin.min2, Builtin.max2, Bool.cond_decide]
  · exact h.elim
end Go.Ab
