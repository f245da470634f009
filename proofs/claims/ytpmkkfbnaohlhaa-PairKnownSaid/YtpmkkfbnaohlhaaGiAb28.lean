/- Tables of what is known of functions. -/
import Derived.Test.YtpmkkfbnaohlhaaGiAb27
set_option linter.unusedVariables false
set_option linter.unusedSimpArgs false
set_option linter.unusedSectionVars false
namespace Go.Ab

def Sres.orElse : Sres → Sres → Sres
  | .alts [], b => b
  | a, _ => a

abbrev Entry := Nat → Nat → List AVal → Hp → Sres

def sumsOf : List (Nat × Entry) → Sums
  | [], _, _, _, _, _ => .stuck
  | (g, e) :: l, k, nm, f, args, h => bif Nat.beq g f then (e k nm args h).orElse (sumsOf l k nm f args h) else sumsOf l k nm f args h

def EntryOK (P : Program) (r : Nat × Entry) : Prop := ∀ k nm args h v u, Yields (r.2 k nm args h) v u → CallOK P r.1 args h v u

def EntryLocal (e : Entry) : Prop := ∀ k nm (args : List AVal) h h', (args.any boxy = false → ∀ id, (id ∈ args.flatMap idsV ∨ inOwn nm id = true) → h id = h' id) → (args.any boxy = true → h = h') → e k nm args h = e k nm args h'

theorem yields_orElse {a b : Sres} {v : AVal} {u : Upd} (h : Yields (a.orElse b) v u) : Yields a v u ∨ Yields b v u := by
  unfold Sres.orElse at h
  split at h
  · exact .inr h
  · exact .inl h

theorem sumsOf_ok {P : Program} : ∀ {l : List (Nat × Entry)}, (∀ r ∈ l, EntryOK P r) → SumsOK P (sumsOf l)
  | [], _ => fun k nm f args h v u hy => hy.elim
  | (g, e) :: l, hl => fun k nm f args h v u hy => by
    have ih := sumsOf_ok (l := l) fun r hr => hl r (List.mem_cons_of_mem _ hr)
    unfold sumsOf at hy
    cases hg : Nat.beq g f with
    | false => rw [hg] at hy; exact ih k nm f args h v u hy
    | true =>
      rw [hg] at hy
      have : g = f := by simpa using hg
      subst this
      rcases yields_orElse hy with hy | hy
      · exact hl (g, e) (List.mem_cons_self ..) k nm args h v u hy
      · exact ih k nm g args h v u hy

theorem sumsOf_local : ∀ {l : List (Nat × Entry)}, (∀ r ∈ l, EntryLocal r.2) → SumsLocal (sumsOf l)
  | [], _ => fun k nm f args h h' _ _ => rfl
  | (g, e) :: l, hl => fun k nm f args h h' h1 h2 => by
    have ih := sumsOf_local (l := l) (fun r hr => hl r (List.mem_cons_of_mem _ hr)) k nm f args h h' h1 h2
    unfold sumsOf
    have he : e k nm args h = e k nm args h' := hl (g, e) (List.mem_cons_self ..) k nm args h h' h1 h2
    rw [ih, he]

/-! ### An entry looks at what it is handed alone -/
section
variable {h h' : Hp}

theorem dataOf_h {t : Ty} {c : CVal} (hh : ∀ id ∈ idsC c, h id = h' id) : dataOf h t c = dataOf h' t c := by
  have e := readSl_h hh
  unfold dataOf
  cases c <;> first | rfl | simp only [e]

theorem inP_h {p : PC} {c : CVal} (hh : ∀ id ∈ idsC c, h id = h' id) : inP h p c = inP h' p c := by
  have e := fun t => dataOf_h (t := t) hh
  unfold inP
  cases p with
  | dat sh t => cases sh with
    | false => cases c <;> exact e t
    | true => cases c <;> first | rfl | (rename_i b _ _; cases b <;> rfl)
  | fn f => cases c <;> first | rfl | (rename_i cap; cases cap <;> rfl)
  | _ => cases c <;> rfl

theorem inL_h : ∀ {l : List PC} {cs : List CVal}, (∀ id ∈ cs.flatMap idsC, h id = h' id) → inL h l cs = inL h' l cs
  | [], [], _ => rfl
  | [], _ :: _, _ => rfl
  | _ :: _, [], _ => rfl
  | p :: l, c :: cs, hh => by
    simp only [List.flatMap_cons, List.mem_append] at hh
    unfold inL
    rw [inP_h fun id hi => hh id (.inl hi), inL_h fun id hi => hh id (.inr hi)]

theorem boxesOf_nil {ls : List (List PC)} : boxesOf h ls [] = boxesOf h' ls [] := by
  cases ls <;> rfl

theorem get_h {s : AS} {a : AVal} (hb : boxy a = false) : s.get h a = s.get h' a := by
  unfold AS.get
  cases s with
  | c p => cases a <;> rfl
  | agg l => cases a <;> rfl
  | ptr l =>
    cases a with
    | c x => cases x <;> first | rfl | (exact absurd hb (by simp [boxy]))
    | _ => rfl
  | fn f caps =>
    cases a with
    | c x => cases x with
      | fn g ids =>
        cases ids with
        | nil => dsimp only; rw [boxesOf_nil]
        | cons _ _ => exact absurd hb (by simp [boxy])
      | _ => rfl
    | _ => rfl

theorem get_ids {s : AS} {a : AVal} {cs : List CVal} (hb : boxy a = false) (e : s.get h a = some cs) : ∀ id ∈ cs.flatMap idsC, id ∈ idsV a := by
  unfold AS.get at e
  split at e
  · cases e; intro id hid; simp only [List.flatMap_cons, List.flatMap_nil, List.append_nil] at hid; exact hid
  · obtain ⟨_, e⟩ := cond_some e
    cases e; exact fun id hid => hid
  · exact absurd hb (by simp [boxy])
  · rename_i f caps g ids
    obtain ⟨_, e⟩ := cond_some e
    cases ids with
    | nil => cases caps with
      | nil => cases e; intro id hid; simp at hid
      | cons _ _ => cases e
    | cons _ _ => exact absurd hb (by simp [boxy])
  · cases e

theorem getAll_h : ∀ {l : List AS} {as : List AVal}, as.any boxy = false → getAll h l as = getAll h' l as
  | [], [], _ => rfl
  | [], _ :: _, _ => rfl
  | _ :: _, [], _ => rfl
  | s :: l, a :: as, hb => by
    simp only [List.any_cons, Bool.or_eq_false_iff] at hb
    unfold getAll
    rw [get_h (h := h) (h' := h') hb.1, getAll_h hb.2]

theorem getAll_ids : ∀ {l : List AS} {as : List AVal} {cs : List CVal}, as.any boxy = false → getAll h l as = some cs → ∀ id ∈ cs.flatMap idsC, id ∈ as.flatMap idsV
  | [], [], cs, _, e => by cases e; intro id hid; simp at hid
  | [], _ :: _, _, _, e => by cases e
  | _ :: _, [], _, _, e => by cases e
  | s :: l, a :: as, cs, hb, e => by
    simp only [List.any_cons, Bool.or_eq_false_iff] at hb
    unfold getAll at e
    split at e
    · rename_i c1 rest e1 e2
      cases e
      intro id hid
      rw [List.flatMap_append, List.mem_append] at hid
      rw [List.flatMap_cons, List.mem_append]
      rcases hid with hid | hid
      · exact .inl (get_ids hb.1 e1 id hid)
      · exact .inr (getAll_ids hb.2 e2 id hid)
    · cases e

theorem inA_h {l : List AS} {as : List AVal} (hb : as.any boxy = false) (hh : ∀ id ∈ as.flatMap idsV, h id = h' id) : inA h l as = inA h' l as := by
  unfold inA
  rw [getAll_h (h := h) (h' := h') hb]
  cases e : getAll h' l as with
  | none => rfl
  | some cs => exact inL_h fun id hid => hh id (getAll_ids hb e id hid)

theorem one_ids {x : CVal} : [x].flatMap idsC = idsV (.c x) := by simp [idsV]

theorem frzC_ids {c c' : CVal} {u : Upd} (e : frzC h c = some (c', u)) : (∀ id ∈ idsC c', id ∈ idsC c) ∧ (boxy (.c c') = true → boxy (.c c) = true) := by
  cases c with
  | osl id r =>
    unfold frzC at e
    dsimp only at e
    split at e
    · cases e; exact ⟨fun id hid => (by cases hid), fun hb => (by cases hb)⟩
    · cases r with
      | none => cases e; exact ⟨fun id hid => (by cases hid), fun hb => (by cases hb)⟩
      | some _ => cases e
    · cases e
  | mrow _ _ _ => cases e
  | _ => cases e; exact ⟨fun _ h => h, fun h => h⟩

theorem frzW_h : ∀ {l : List Bool} {cs : List CVal}, (∀ id ∈ cs.flatMap idsC, h id = h' id) → frzW h l cs = frzW h' l cs
  | [], cs, _ => by cases cs <;> rfl
  | true :: l, [], _ => rfl
  | false :: l, [], _ => rfl
  | true :: l, c :: cs, hh => by
    simp only [List.flatMap_cons, List.mem_append] at hh
    unfold frzW
    rw [frzC_h fun id hi => hh id (.inl hi), frzW_h fun id hi => hh id (.inr hi)]
  | false :: l, c :: cs, hh => by
    simp only [List.flatMap_cons, List.mem_append] at hh
    unfold frzW
    rw [frzW_h fun id hi => hh id (.inr hi)]

theorem frzW_ids : ∀ {l : List Bool} {cs cs' : List CVal} {u : Upd}, frzW h l cs = some (cs', u) → ∀ id ∈ cs'.flatMap idsC, id ∈ cs.flatMap idsC
  | [], cs, cs', u, e => by cases cs <;> cases e <;> exact fun _ h => h
  | true :: l, [], cs', u, e => by cases e; exact fun _ h => h
  | false :: l, [], cs', u, e => by cases e; exact fun _ h => h
  | true :: l, c :: cs, cs', u, e => by
    unfold frzW at e
    split at e
    · rename_i c1 u1 cs1 us1 e1 e2
      cases e
      intro id hid
      rw [List.flatMap_cons, List.mem_append] at hid ⊢
      exact hid.imp ((frzC_ids e1).1 id) (frzW_ids e2 id)
    · cases e
  | false :: l, c :: cs, cs', u, e => by
    unfold frzW at e
    split at e
    · rename_i cs1 us1 e2
      cases e
      intro id hid
      rw [List.flatMap_cons, List.mem_append] at hid ⊢
      exact hid.imp (fun h => h) (frzW_ids e2 id)
    · cases e

theorem frzS_h {s : AS} {a : AVal} (hh : ∀ id ∈ idsV a, h id = h' id) : frzS h s a = frzS h' s a := by
  unfold frzS
  cases s with
  | c p => cases a with
    | c x =>
      have := frzW_h (h := h) (h' := h') (l := [p.isKept]) (cs := [x]) (by rw [one_ids]; exact hh)
      simp only [this]
    | _ => rfl
  | agg l => cases a with
    | agg xs =>
      have := frzW_h (h := h) (h' := h') (l := l.map PC.isKept) (cs := xs) hh
      simp only [this]
    | _ => rfl
  | _ => rfl

theorem frzS_ids {s : AS} {a a' : AVal} {u : Upd} (e : frzS h s a = some (a', u)) : (∀ id ∈ idsV a', id ∈ idsV a) ∧ (boxy a = false → boxy a' = false) := by
  unfold frzS at e
  split at e
  · rename_i p x
    split at e
    · rename_i y u1 e1
      cases e
      refine ⟨fun id hid => by have := frzW_ids e1 id (by rw [one_ids]; exact hid); rwa [one_ids] at this, fun hb => ?_⟩
      cases hk : p.isKept with
      | false => rw [hk] at e1; cases e1; exact hb
      | true =>
        rw [hk] at e1
        unfold frzW at e1
        split at e1
        · rename_i c1 u2 cs1 us1 e2 e3
          cases e3
          cases e1
          cases hy : boxy (.c y) with
          | false => rfl
          | true => rw [(frzC_ids e2).2 hy] at hb; cases hb
        · cases e1
    · cases e
  · rename_i l xs
    split at e
    · rename_i ys u1 e1
      cases e
      exact ⟨frzW_ids e1, fun _ => rfl⟩
    · cases e
  · cases e; exact ⟨fun _ h => h, fun h => h⟩

theorem frzA_h : ∀ {l : List AS} {as : List AVal}, (∀ id ∈ as.flatMap idsV, h id = h' id) → frzA h l as = frzA h' l as
  | [], as, _ => by cases as <;> rfl
  | _ :: _, [], _ => rfl
  | s :: l, a :: as, hh => by
    simp only [List.flatMap_cons, List.mem_append] at hh
    unfold frzA
    rw [frzS_h fun id hi => hh id (.inl hi), frzA_h fun id hi => hh id (.inr hi)]

theorem frzA_ids : ∀ {l : List AS} {as as' : List AVal} {u : Upd}, frzA h l as = some (as', u) → (∀ id ∈ as'.flatMap idsV, id ∈ as.flatMap idsV) ∧ (as.any boxy = false → as'.any boxy = false)
  | [], as, as', u, e => by cases as <;> cases e <;> exact ⟨fun _ h => h, fun h => h⟩
  | s :: l, [], as', u, e => by cases e; exact ⟨fun _ h => h, fun h => h⟩
  | s :: l, a :: as, as', u, e => by
    unfold frzA at e
    split at e
    · rename_i a1 u1 as1 us1 e1 e2
      cases e
      obtain ⟨k1, k2⟩ := frzS_ids e1
      obtain ⟨k3, k4⟩ := frzA_ids e2
      refine ⟨fun id hid => ?_, fun hb => ?_⟩
      · rw [List.flatMap_cons, List.mem_append] at hid ⊢
        exact hid.imp (k1 id) (k3 id)
      · simp only [List.any_cons, Bool.or_eq_false_iff] at hb ⊢
        exact ⟨k2 hb.1, k4 hb.2⟩
    · cases e

theorem freeN_h : ∀ {n nm : Nat}, (∀ i, i < n → h (nm + i) = h' (nm + i)) → freeN h nm n = freeN h' nm n
  | 0, _, _ => rfl
  | n + 1, nm, hh => by
    unfold freeN
    have := hh 0 (by omega)
    rw [Nat.add_zero] at this
    rw [this, freeN_h fun i hi => by have := hh (i + 1) (by omega); rw [show nm + (i + 1) = nm + 1 + i by omega] at this; exact this]
end

theorem entry_local {as : List AS} {rs : RS} {X : Type} {S : Nat → AD as → Option X} {pack : X → RL rs.cells} : EntryLocal fun k nm args h => entry as rs (S k) pack nm args h := by
  intro k nm args h h' h1 h2
  cases hb : args.any boxy with
  | true => rw [h2 hb]
  | false =>
    have hh := h1 hb
    show entry as rs (S k) pack nm args h = entry as rs (S k) pack nm args h'
    unfold entry
    rw [frzA_h (h := h) (h' := h') fun id hid => hh id (.inl hid)]
    cases e : frzA h' as args with
    | none => rfl
    | some p =>
      obtain ⟨args', u⟩ := p
      obtain ⟨k1, k2⟩ := frzA_ids e
      dsimp only
      rw [inA_h (h := happly h u) (h' := happly h' u) (k2 hb) fun id hid => happly_at (hh id (.inl (k1 id hid)))]
      cases inA (happly h' u) as args' with
      | none => rfl
      | some d =>
        dsimp only
        cases hle : Nat.ble rs.cells.length 100 with
        | false => simp
        | true =>
          have hle := Nat.le_of_ble_eq_true hle
          rw [freeN_h (h := h) (h' := h') fun i hi => hh _ (.inr (by
            simp only [inOwn, Bool.and_eq_true]
            exact ⟨Nat.ble_eq_true_of_le (by omega), by simp [Nat.blt_eq]; omega⟩))]
end Go.Ab
