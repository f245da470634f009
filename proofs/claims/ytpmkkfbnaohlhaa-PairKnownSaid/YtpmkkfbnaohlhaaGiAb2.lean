/- The steps that memory may take, each with what stays true. -/
import Derived.Test.YtpmkkfbnaohlhaaGiAb1
set_option linter.unusedVariables false
namespace Go.Ab

theorem ORep.ext {M M' : Mst} (x : Ext M M') {o : Obj} {C : Conc} (hb : o.owned = true → ∀ b ∈ C.fp, M'.H[b]? = M.H[b]?) (h : ORep M o C) : ORep M' o C := by
  cases o with
  | box own cells =>
    obtain ⟨B, vals, e, h1, h2, h3, h4, h5⟩ := h
    have hs : M'.H[B]? = M.H[B]? := by
      cases own with
      | true => exact hb rfl B (by simp [Conc.fp, h1])
      | false => exact x.sameG B (h5 rfl)
    exact ⟨B, vals, e, h1, h2, by rw [hs]; exact h3, h4.mono fun _ _ hc => hc.ext x, fun h => x.G B (h5 h)⟩
  | robox cells =>
    obtain ⟨B, vals, e, h1, h2, h3, h4, h5⟩ := h
    exact ⟨B, vals, e, h1, h2, by rw [x.same B h5]; exact h3, h4.mono fun _ _ hc => hc.ext x, x.F B h5⟩
  | arr own t xs =>
    obtain ⟨h1, h2, h3, h4⟩ := h
    refine ⟨h1, h2, h3, ?_⟩
    cases hB : C.blk with
    | none => rw [hB] at h4; exact h4
    | some B =>
      rw [hB] at h4
      obtain ⟨vals, e, h5, h6, h7, h8⟩ := h4
      have hs : M'.H[B]? = M.H[B]? := by
        cases own with
        | true => exact hb rfl B (by simp [Conc.fp, hB])
        | false => exact x.sameG B (h6 rfl)
      exact ⟨vals, e, by rw [hs]; exact h5, fun h => x.G B (h6 h), h7, fun i hi => ERep_mono x.G x.sameG _ _ _ _ (fun _ _ => rfl) (h8 i hi)⟩
  | mat ver xs =>
    obtain ⟨h1, h2, h3, h4, h5, h6⟩ := h
    refine ⟨h1, h2, h3, h4, h5, ?_⟩
    cases hB : C.blk with
    | none => rw [hB] at h6; exact h6
    | some B =>
      rw [hB] at h6
      obtain ⟨vals, e, h7, h8, h9⟩ := h6
      refine ⟨vals, e, by rw [hb rfl B (by simp [Conc.fp, hB])]; exact h7, h8, fun i hi => ?_⟩
      obtain ⟨rb, v, k1, k2, k3, k4⟩ := h9 i hi
      refine ⟨rb, v, k1, k2, k3.ext x, fun R hR => ?_⟩
      obtain ⟨rv, er, k5, k6⟩ := k4 R hR
      refine ⟨rv, er, ?_, k6⟩
      rw [hb rfl R ?_]
      · exact k5
      · have : (rb, xs[i].length) ∈ C.rows := List.mem_of_getElem? k1
        simp only [Conc.fp, List.mem_append, List.mem_filterMap]
        exact .inr ⟨_, this, hR⟩
  | pmat ver xs n =>
    obtain ⟨h1, h2, h3, h4, h5, h0, h6⟩ := h
    refine ⟨h1, h2, h3, h4, h5, h0, ?_⟩
    cases hB : C.blk with
    | none => rw [hB] at h6; exact h6
    | some B =>
      rw [hB] at h6
      obtain ⟨vals, e, h7, h8, h9⟩ := h6
      refine ⟨vals, e, by rw [hb rfl B (by simp [Conc.fp, hB])]; exact h7, h8, fun i hi => ?_⟩
      obtain ⟨rb, v, k1, k2, k3, k4⟩ := h9 i hi
      refine ⟨rb, v, k1, k2, k3.ext x, fun R hR => ?_⟩
      obtain ⟨rv, er, k5, k6⟩ := k4 R hR
      refine ⟨rv, er, ?_, k6⟩
      rw [hb rfl R ?_]
      · exact k5
      · have : (rb, xs[i].length) ∈ C.rows := List.mem_of_getElem? k1
        simp only [Conc.fp, List.mem_append, List.mem_filterMap]
        exact .inr ⟨_, this, hR⟩
  | imap kvs =>
    obtain ⟨B, es, ck, h1, h2, h3, h4, h5⟩ := h
    exact ⟨B, es, ck, h1, h2, by rw [hb rfl B (by simp [Conc.fp, h1])]; exact h3, h4, h5⟩
  | gone => trivial

/-- A step: what an operation, or a call, may do. -/
structure Step (M M' : Mst) : Prop where
  ext : Ext M M'
  size : M.H.size ≤ M'.H.size
  frame : ∀ b, b < M.H.size → ¬ Own M b → M'.H[b]? = M.H[b]?
  own : ∀ b, Own M' b → b < M.H.size → Own M b
  Gb : ∀ b, M'.G b → b < M.H.size → M.G b ∨ Own M b
  Fb : ∀ b, M'.F b → b < M.H.size → M.F b ∨ Own M b

theorem Ext.refl (M : Mst) : Ext M M := ⟨fun _ C h => ⟨C, h, C.le_refl⟩, fun _ h => h, fun _ h => h, fun _ _ => rfl, fun _ _ => rfl, fun _ _ => rfl⟩
theorem Step.refl (M : Mst) : Step M M := ⟨Ext.refl M, Nat.le_refl _, fun _ _ _ => rfl, fun _ h _ => h, fun _ h _ => .inl h, fun _ h _ => .inl h⟩
theorem Ext.trans {M M' M'' : Mst} (hs : M.H.size ≤ M'.H.size) (x : Ext M M') (y : Ext M' M'') : Ext M M'' where
  κ id C h := by
    obtain ⟨C', h', le⟩ := x.κ id C h
    obtain ⟨C'', h'', le'⟩ := y.κ id C' h'
    exact ⟨C'', h'', Conc.le_trans le le'⟩
  F b h := y.F b (x.F b h)
  G b h := y.G b (x.G b h)
  same b h := (y.same b (x.F b h)).trans (x.same b h)
  sameG b h := (y.sameG b (x.G b h)).trans (x.sameG b h)
  bsz b h := (y.bsz b (by omega)).trans (x.bsz b h)
theorem Step.trans {M M' M'' : Mst} (x : Step M M') (y : Step M' M'') : Step M M'' where
  ext := x.ext.trans x.size y.ext
  size := Nat.le_trans x.size y.size
  frame b h hn := by
    have := x.size
    rw [y.frame b (by omega) fun ho => hn (x.own b ho h), x.frame b h hn]
  own b ho h := x.own b (y.own b ho (by have := x.size; omega)) h
  Gb b hg h := by
    rcases y.Gb b hg (by have := x.size; omega) with k | k
    · exact x.Gb b k h
    · exact .inr (x.own b k h)
  Fb b hg h := by
    rcases y.Fb b hg (by have := x.size; omega) with k | k
    · exact x.Fb b k h
    · exact .inr (x.own b k h)

/-- What must be shown where some objects turn. -/
theorem Ok.build {M M' : Mst} (ok : Ok M) (x : Ext M M') (T : Nat → Prop)
    (hh : ∀ id, ¬ T id → M'.h id = M.h id) (hκ : ∀ id, ¬ T id → M'.κ id = M.κ id)
    (keep : ∀ id o C, ¬ T id → M.h id = some o → o.owned = true → M.κ id = some C → ∀ b ∈ C.fp, M'.H[b]? = M.H[b]?)
    (keepF : ∀ id o C, ¬ T id → M.h id = some o → o.owned = true → M.κ id = some C → ∀ b ∈ C.fp, ¬ M'.F b)
    (size : M.H.size ≤ M'.H.size)
    (obj : ∀ id o, T id → M'.h id = some o → ∃ C, M'.κ id = some C ∧ ORep M' o C)
    (non : ∀ id, T id → M'.h id = none → M'.κ id = none)
    (disj : ∀ id o C b, T id → M'.h id = some o → o.owned = true → M'.κ id = some C → b ∈ C.fp →
      (∀ j oj Cj, j ≠ id → M'.h j = some oj → oj.owned = true → M'.κ j = some Cj → b ∉ Cj.fp) ∧ ¬ M'.F b ∧ b < M'.H.size)
    (GF : ∀ b, M'.G b → M'.F b) (Flt : ∀ b, M'.F b → b < M'.H.size) : Ok M' where
  obj id o h := by
    by_cases hT : T id
    · exact obj id o hT h
    · rw [hh id hT] at h
      obtain ⟨C, hC, hO⟩ := ok.obj id o h
      exact ⟨C, by rw [hκ id hT]; exact hC, hO.ext x fun ho => keep id o C hT h ho hC⟩
  non id h := by
    by_cases hT : T id
    · exact non id hT h
    · rw [hκ id hT]; exact ok.non id (by rw [← hh id hT]; exact h)
  disj i j oi oj Ci Cj b hij hi hj hoi hoj hCi hCj hbi hbj := by
    by_cases hTi : T i
    · exact (disj i oi Ci b hTi hi hoi hCi hbi).1 j oj Cj (Ne.symm hij) hj hoj hCj hbj
    · by_cases hTj : T j
      · exact (disj j oj Cj b hTj hj hoj hCj hbj).1 i oi Ci hij hi hoi hCi hbi
      · rw [hh i hTi] at hi; rw [hh j hTj] at hj; rw [hκ i hTi] at hCi; rw [hκ j hTj] at hCj
        exact ok.disj i j oi oj Ci Cj b hij hi hj hoi hoj hCi hCj hbi hbj
  own b hb := by
    obtain ⟨id, o, C, h, ho, hC, hb⟩ := hb
    by_cases hT : T id
    · exact (disj id o C b hT h ho hC hb).2
    · rw [hh id hT] at h; rw [hκ id hT] at hC
      have := ok.own b ⟨id, o, C, h, ho, hC, hb⟩
      exact ⟨keepF id o C hT h ho hC b hb, by omega⟩
  GF := GF
  Flt := Flt

def κset (κ : Nat → Option Conc) (id : Nat) (C : Conc) : Nat → Option Conc := fun n => if n = id then some C else κ n
theorem κset_same (κ : Nat → Option Conc) (id : Nat) (C : Conc) : κset κ id C id = some C := by simp [κset]
theorem κset_ne (κ : Nat → Option Conc) {id n : Nat} (C : Conc) (h : n ≠ id) : κset κ id C n = κ n := by simp [κset, h]
theorem hset_same (h : Hp) (id : Nat) (o : Obj) : hset h id o id = some o := by simp [hset]
theorem hset_ne (h : Hp) {id n : Nat} (o : Obj) (hn : n ≠ id) : hset h id o n = h n := by
  have : Nat.beq n id = false := by
    cases hb : Nat.beq n id with
    | true => exact absurd (Nat.eq_of_beq_eq_true hb) hn
    | false => rfl
  simp only [hset, this, cond_false]

theorem push_lt {H : Array Go.Obj} {o : Go.Obj} {b : Nat} (h : b < H.size) : (H.push o)[b]? = H[b]? := by
  rw [Array.getElem?_push, if_neg (by omega)]
theorem push_new {H : Array Go.Obj} {o : Go.Obj} : (H.push o)[H.size]? = some o := by rw [Array.getElem?_push, if_pos rfl]

/-- A new object in a new block (or in none). -/
def Mst.new (M : Mst) (id : Nat) (o : Obj) (C : Conc) (ob : Go.Obj) : Mst := { M with κ := κset M.κ id C, h := hset M.h id o, H := M.H.push ob }

theorem Mst.new_ext {M : Mst} (ok : Ok M) {id : Nat} (hid : M.h id = none) (o : Obj) (C : Conc) (ob : Go.Obj) : Ext M (M.new id o C ob) where
  κ n D h := by
    have : n ≠ id := fun e => by rw [e, ok.non id hid] at h; cases h
    exact ⟨D, by simp only [Mst.new]; rw [κset_ne _ _ this]; exact h, D.le_refl⟩
  F _ h := h
  G _ h := h
  same b h := push_lt (ok.Flt b h)
  sameG b h := push_lt (ok.Flt b (ok.GF b h))
  bsz b h := bsize_congr (push_lt h)

theorem Mst.new_ok {M : Mst} (ok : Ok M) {id : Nat} (hid : M.h id = none) (o : Obj) (C : Conc) (ob : Go.Obj) (hC : ∀ b ∈ C.fp, b = M.H.size)
    (hO : ORep (M.new id o C ob) o C) : Ok (M.new id o C ob) ∧ Step M (M.new id o C ob) := by
  have x := Mst.new_ext ok hid o C ob
  have hsz : (M.new id o C ob).H.size = M.H.size + 1 := by simp [Mst.new]
  have hOwn : ∀ b, Own (M.new id o C ob) b → b = M.H.size ∨ Own M b := by
    rintro b ⟨n, q, D, h1, h2, h3, h4⟩
    by_cases e : n = id
    · subst e
      simp only [Mst.new, hset_same, κset_same, Option.some.injEq] at h1 h3
      subst h3
      exact .inl (hC b h4)
    · simp only [Mst.new] at h1 h3
      rw [hset_ne _ _ e] at h1; rw [κset_ne _ _ e] at h3
      exact .inr ⟨n, q, D, h1, h2, h3, h4⟩
  refine ⟨ok.build x (· = id) (fun n hn => hset_ne _ _ hn) (fun n hn => κset_ne _ _ hn) ?_ ?_ (by omega) ?_ ?_ ?_ ok.GF ?_, x, by omega, ?_, ?_, ?_, ?_⟩
  · intro n q D hn h1 h2 h3 b hb
    exact push_lt (ok.own b ⟨n, q, D, h1, h2, h3, hb⟩).2
  · intro n q D hn h1 h2 h3 b hb
    exact (ok.own b ⟨n, q, D, h1, h2, h3, hb⟩).1
  · rintro n q rfl h1
    simp only [Mst.new, hset_same, Option.some.injEq] at h1
    subst h1
    exact ⟨C, κset_same _ _ _, hO⟩
  · rintro n rfl h1
    simp only [Mst.new, hset_same] at h1
    cases h1
  · rintro n q D b rfl h1 h2 h3 hb
    simp only [Mst.new, κset_same, Option.some.injEq] at h3
    subst h3
    have eb := hC b hb
    refine ⟨fun j oj Cj hj k1 k2 k3 k4 => ?_, fun hF => ?_, by omega⟩
    · simp only [Mst.new] at k1 k3
      rw [hset_ne _ _ hj] at k1; rw [κset_ne _ _ hj] at k3
      have := (ok.own b ⟨j, oj, Cj, k1, k2, k3, k4⟩).2
      omega
    · have := ok.Flt b hF
      omega
  · intro b hb
    have := ok.Flt b hb
    omega
  · intro b hb _
    exact push_lt hb
  · intro b hb hlt
    rcases hOwn b hb with e | e
    · omega
    · exact e
  · exact fun b h _ => .inl h
  · exact fun b h _ => .inl h

/-- An object of the call's own is written: one block of its own turns, its size does not. -/
def Mst.write (M : Mst) (id : Nat) (o : Obj) (C : Conc) (H : Array Go.Obj) : Mst := { M with κ := κset M.κ id C, h := hset M.h id o, H := H }

theorem Mst.write_ext {M : Mst} (ok : Ok M) {id : Nat} {o : Obj} {C C' : Conc} {H' : Array Go.Obj} (hid : M.h id = some o) (hown : o.owned = true) (hC : M.κ id = some C)
    (hle : C.le C') (hH : ∀ b, b ∉ C.fp → H'[b]? = M.H[b]?) (hbs : ∀ b, b < M.H.size → bsize H' b = bsize M.H b) (o' : Obj) : Ext M (M.write id o' C' H') :=
  have hnF : ∀ b, M.F b → b ∉ C.fp := fun b hF hb => (ok.own b ⟨id, o, C, hid, hown, hC, hb⟩).1 hF
  { κ := fun n D h => by
      by_cases e : n = id
      · subst e
        rw [hC] at h
        cases h
        exact ⟨C', κset_same _ _ _, hle⟩
      · exact ⟨D, by simp only [Mst.write]; rw [κset_ne _ _ e]; exact h, D.le_refl⟩
    F := fun _ h => h
    G := fun _ h => h
    same := fun b h => hH b (hnF b h)
    sameG := fun b h => hH b (hnF b (ok.GF b h))
    bsz := hbs }

theorem Mst.write_ok {M : Mst} (ok : Ok M) {id : Nat} {o o' : Obj} {C C' : Conc} {H' : Array Go.Obj} (hid : M.h id = some o) (hown : o.owned = true) (hC : M.κ id = some C)
    (hle : C.le C') (hfp : ∀ b ∈ C'.fp, b ∈ C.fp) (hsz : H'.size = M.H.size) (hH : ∀ b, b ∉ C.fp → H'[b]? = M.H[b]?) (hbs : ∀ b, b < M.H.size → bsize H' b = bsize M.H b)
    (hO : ORep (M.write id o' C' H') o' C') : Ok (M.write id o' C' H') ∧ Step M (M.write id o' C' H') := by
  have x := Mst.write_ext ok hid hown hC hle hH hbs o'
  have hOwn : ∀ b, Own (M.write id o' C' H') b → Own M b := by
    rintro b ⟨n, q, D, h1, h2, h3, h4⟩
    by_cases e : n = id
    · subst e
      simp only [Mst.write, hset_same, κset_same, Option.some.injEq] at h1 h3
      subst h3
      exact ⟨n, o, C, hid, hown, hC, hfp b h4⟩
    · simp only [Mst.write] at h1 h3
      rw [hset_ne _ _ e] at h1; rw [κset_ne _ _ e] at h3
      exact ⟨n, q, D, h1, h2, h3, h4⟩
  refine ⟨ok.build x (· = id) (fun n hn => hset_ne _ _ hn) (fun n hn => κset_ne _ _ hn) ?_ ?_ (by simp only [Mst.write]; omega) ?_ ?_ ?_ ok.GF ?_, x, by simp only [Mst.write]; omega, ?_, ?_, ?_, ?_⟩
  · intro n q D hn h1 h2 h3 b hb
    exact hH b fun hc => ok.disj n id q o D C b hn h1 hid h2 hown h3 hC hb hc
  · intro n q D hn h1 h2 h3 b hb
    exact (ok.own b ⟨n, q, D, h1, h2, h3, hb⟩).1
  · rintro n q rfl h1
    simp only [Mst.write, hset_same, Option.some.injEq] at h1
    subst h1
    exact ⟨C', κset_same _ _ _, hO⟩
  · rintro n rfl h1
    simp only [Mst.write, hset_same] at h1
    cases h1
  · rintro n q D b rfl h1 h2 h3 hb
    simp only [Mst.write, κset_same, Option.some.injEq] at h3
    subst h3
    have hb' := hfp b hb
    have := ok.own b ⟨n, o, C, hid, hown, hC, hb'⟩
    refine ⟨fun j oj Cj hj k1 k2 k3 k4 => ?_, this.1, by simp only [Mst.write]; omega⟩
    simp only [Mst.write] at k1 k3
    rw [hset_ne _ _ hj] at k1; rw [κset_ne _ _ hj] at k3
    exact ok.disj j n oj o Cj C b hj k1 hid k2 hown k3 hC k4 hb'
  · intro b hb
    have := ok.Flt b hb
    simp only [Mst.write]; omega
  · intro b hb hn
    exact hH b fun hc => hn ⟨id, o, C, hid, hown, hC, hc⟩
  · exact fun b hb _ => hOwn b hb
  · exact fun b h _ => .inl h
  · exact fun b h _ => .inl h

/-- An object is given up. -/
def Mst.kill (M : Mst) (id : Nat) : Mst := { M with h := hset M.h id .gone }

theorem Mst.kill_ok {M : Mst} (ok : Ok M) {id : Nat} {o : Obj} (hid : M.h id = some o) : Ok (M.kill id) ∧ Step M (M.kill id) := by
  obtain ⟨C, hC, _⟩ := ok.obj id o hid
  have x : Ext M (M.kill id) := ⟨fun _ C h => ⟨C, h, C.le_refl⟩, fun _ h => h, fun _ h => h, fun _ _ => rfl, fun _ _ => rfl, fun _ _ => rfl⟩
  have hOwn : ∀ b, Own (M.kill id) b → Own M b := by
    rintro b ⟨n, q, D, h1, h2, h3, h4⟩
    by_cases e : n = id
    · subst e
      simp only [Mst.kill, hset_same, Option.some.injEq] at h1
      subst h1
      cases h2
    · simp only [Mst.kill] at h1
      rw [hset_ne _ _ e] at h1
      exact ⟨n, q, D, h1, h2, h3, h4⟩
  refine ⟨ok.build x (· = id) (fun n hn => hset_ne _ _ hn) (fun n _ => rfl) (fun _ _ _ _ _ _ _ _ _ => rfl) ?_ (Nat.le_refl _) ?_ ?_ ?_ ok.GF ok.Flt, x, Nat.le_refl _, fun _ _ _ => rfl, fun b hb _ => hOwn b hb, fun b h _ => .inl h, fun b h _ => .inl h⟩
  · intro n q D hn h1 h2 h3 b hb
    exact (ok.own b ⟨n, q, D, h1, h2, h3, hb⟩).1
  · rintro n q rfl h1
    simp only [Mst.kill, hset_same, Option.some.injEq] at h1
    subst h1
    exact ⟨C, hC, trivial⟩
  · rintro n rfl h1
    simp only [Mst.kill, hset_same] at h1
    cases h1
  · rintro n q D b rfl h1 h2 h3 hb
    simp only [Mst.kill, hset_same, Option.some.injEq] at h1
    subst h1
    cases h2

/-- An object of the call's own is written no more. -/
def Mst.freeze (M : Mst) (id : Nat) (o : Obj) (C : Conc) : Mst := { M with h := hset M.h id o, F := fun b => M.F b ∨ b ∈ C.fp, G := fun b => M.G b ∨ b ∈ C.fp }

theorem Mst.freeze_ok {M : Mst} (ok : Ok M) {id : Nat} {o o' : Obj} {C : Conc} (hid : M.h id = some o) (hown : o.owned = true) (hC : M.κ id = some C)
    (ho' : o'.owned = false) (hO : ORep (M.freeze id o' C) o' C) : Ok (M.freeze id o' C) ∧ Step M (M.freeze id o' C) := by
  have x : Ext M (M.freeze id o' C) := ⟨fun _ C h => ⟨C, h, C.le_refl⟩, fun _ h => .inl h, fun _ h => .inl h, fun _ _ => rfl, fun _ _ => rfl, fun _ _ => rfl⟩
  have hown' : ∀ b ∈ C.fp, Own M b := fun b hb => ⟨id, o, C, hid, hown, hC, hb⟩
  have hOwn : ∀ b, Own (M.freeze id o' C) b → Own M b := by
    rintro b ⟨n, q, D, h1, h2, h3, h4⟩
    by_cases e : n = id
    · subst e
      simp only [Mst.freeze, hset_same, Option.some.injEq] at h1
      subst h1
      rw [ho'] at h2
      cases h2
    · simp only [Mst.freeze] at h1
      rw [hset_ne _ _ e] at h1
      exact ⟨n, q, D, h1, h2, h3, h4⟩
  refine ⟨ok.build x (· = id) (fun n hn => hset_ne _ _ hn) (fun n _ => rfl) (fun _ _ _ _ _ _ _ _ _ => rfl) ?_ (Nat.le_refl _) ?_ ?_ ?_ ?_ ?_, x, Nat.le_refl _, fun _ _ _ => rfl, fun b hb _ => hOwn b hb, ?_, ?_⟩
  · rintro n q D hn h1 h2 h3 b hb (hF | hF)
    · exact (ok.own b ⟨n, q, D, h1, h2, h3, hb⟩).1 hF
    · exact ok.disj n id q o D C b hn h1 hid h2 hown h3 hC hb hF
  · rintro n q rfl h1
    simp only [Mst.freeze, hset_same, Option.some.injEq] at h1
    subst h1
    exact ⟨C, hC, hO⟩
  · rintro n rfl h1
    simp only [Mst.freeze, hset_same] at h1
    cases h1
  · rintro n q D b rfl h1 h2 h3 hb
    simp only [Mst.freeze, hset_same, Option.some.injEq] at h1
    subst h1
    rw [ho'] at h2
    cases h2
  · rintro b (h | h)
    · exact .inl (ok.GF b h)
    · exact .inr h
  · rintro b (h | h)
    · exact ok.Flt b h
    · exact (ok.own b (hown' b h)).2
  · rintro b (h | h) _
    · exact .inl h
    · exact .inr (hown' b h)
  · rintro b (h | h) _
    · exact .inl h
    · exact .inr (hown' b h)

/-- An object goes under another name; the elder one is given up. -/
def Mst.rename (M : Mst) (id nm : Nat) (o : Obj) (C : Conc) : Mst := { M with κ := κset M.κ nm C, h := hset (hset M.h id .gone) nm o }

theorem Mst.rename_ok {M : Mst} (ok : Ok M) {id nm : Nat} {o : Obj} {C : Conc} (hid : M.h id = some o) (hown : o.owned = true) (hC : M.κ id = some C) (hnm : M.h nm = none) :
    Ok (M.rename id nm o C) ∧ Step M (M.rename id nm o C) := by
  have hne : id ≠ nm := fun e => by rw [e, hnm] at hid; cases hid
  have x : Ext M (M.rename id nm o C) :=
    ⟨fun n D h => by
      have : n ≠ nm := fun e => by rw [e, ok.non nm hnm] at h; cases h
      exact ⟨D, by simp only [Mst.rename]; rw [κset_ne _ _ this]; exact h, D.le_refl⟩, fun _ h => h, fun _ h => h, fun _ _ => rfl, fun _ _ => rfl, fun _ _ => rfl⟩
  have hOwn : ∀ b, Own (M.rename id nm o C) b → Own M b := by
    rintro b ⟨n, q, D, h1, h2, h3, h4⟩
    by_cases e : n = nm
    · subst e
      simp only [Mst.rename, hset_same, κset_same, Option.some.injEq] at h1 h3
      subst h3
      exact ⟨id, o, C, hid, hown, hC, h4⟩
    · simp only [Mst.rename] at h1 h3
      rw [hset_ne _ _ e] at h1; rw [κset_ne _ _ e] at h3
      by_cases e' : n = id
      · subst e'
        rw [hset_same] at h1
        cases h1
        cases h2
      · rw [hset_ne _ _ e'] at h1
        exact ⟨n, q, D, h1, h2, h3, h4⟩
  refine ⟨ok.build x (fun n => n = id ∨ n = nm) (fun n hn => ?_) (fun n hn => κset_ne _ _ fun e => hn (.inr e)) (fun _ _ _ _ _ _ _ _ _ => rfl) ?_ (Nat.le_refl _) ?_ ?_ ?_ ok.GF ok.Flt, x, Nat.le_refl _, fun _ _ _ => rfl, fun b hb _ => hOwn b hb, fun b h _ => .inl h, fun b h _ => .inl h⟩
  · simp only [Mst.rename]
    rw [hset_ne _ _ fun e => hn (.inr e), hset_ne _ _ fun e => hn (.inl e)]
  · intro n q D hn h1 h2 h3 b hb
    exact (ok.own b ⟨n, q, D, h1, h2, h3, hb⟩).1
  · obtain ⟨D, hD, hO⟩ := ok.obj id o hid
    rw [hC] at hD; cases hD
    rintro n q (rfl | rfl) h1
    · simp only [Mst.rename] at h1
      rw [hset_ne _ _ hne, hset_same] at h1
      cases h1
      exact ⟨C, by simp only [Mst.rename]; rw [κset_ne _ _ hne]; exact hC, trivial⟩
    · simp only [Mst.rename, hset_same, Option.some.injEq] at h1
      subst h1
      exact ⟨C, κset_same _ _ _, hO.ext x fun _ _ _ => rfl⟩
  · rintro n (rfl | rfl) h1
    · simp only [Mst.rename] at h1
      rw [hset_ne _ _ hne, hset_same] at h1
      cases h1
    · simp only [Mst.rename, hset_same] at h1
      cases h1
  · rintro n q D b (rfl | rfl) h1 h2 h3 hb
    · simp only [Mst.rename] at h1
      rw [hset_ne _ _ hne, hset_same] at h1
      cases h1
      cases h2
    · simp only [Mst.rename, κset_same, Option.some.injEq] at h3
      subst h3
      have := ok.own b ⟨id, o, C, hid, hown, hC, hb⟩
      refine ⟨fun j oj Cj hj k1 k2 k3 k4 => ?_, this⟩
      simp only [Mst.rename] at k1 k3
      rw [hset_ne _ _ hj] at k1; rw [κset_ne _ _ hj] at k3
      by_cases e' : j = id
      · subst e'
        rw [hset_same] at k1
        cases k1
        cases k2
      · rw [hset_ne _ _ e'] at k1
        exact ok.disj j id oj o Cj C b e' k1 hid k2 hown k3 hC k4 hb
end Go.Ab
