/- Calls that hand over boxes: what is looked at. -/
import Derived.Test.YtpmkkfbnaohlhaaGiAb37
set_option linter.unusedVariables false
set_option linter.unusedSimpArgs false
set_option linter.unusedSectionVars false
namespace Go.Ab

section
variable {h h' : Hp}

theorem inX_h {x : XC} {c : CVal} (hh : ∀ id ∈ idsC c, h id = h' id) : inX h x c = inX h' x c := by
  unfold inX
  split
  · exact inP_h hh
  · rename_i id; rw [hh id (by simp [idsC])]
  · rename_i id; rw [hh id (by simp [idsC])]
  · rename_i id; rw [hh id (by simp [idsC])]
  · rfl

theorem inXL_h : ∀ {l : List XC} {cs : List CVal}, (∀ id ∈ cs.flatMap idsC, h id = h' id) → inXL h l cs = inXL h' l cs
  | [], [], _ => rfl
  | [], _ :: _, _ => rfl
  | _ :: _, [], _ => rfl
  | p :: l, c :: cs, hh => by
    simp only [List.flatMap_cons, List.mem_append] at hh
    unfold inXL
    rw [inX_h fun id hi => hh id (.inl hi), inXL_h fun id hi => hh id (.inr hi)]

theorem boxesX_nil {ls : List (Bool × List XC)} : boxesX h ls [] = boxesX h' ls [] := by
  cases ls <;> rfl

theorem getX_h {s : AX} {a : AVal} (hb : boxy a = false) : s.get h a = s.get h' a := by
  unfold AX.get
  cases s with
  | c p => cases a <;> rfl
  | agg l => cases a <;> rfl
  | ptr io l =>
    cases a with
    | c x => cases x <;> first | rfl | (exact absurd hb (by simp [boxy]))
    | _ => rfl
  | fn f caps =>
    cases a with
    | c x => cases x with
      | fn g ids =>
        cases ids with
        | nil => dsimp only; rw [boxesX_nil]
        | cons _ _ => exact absurd hb (by simp [boxy])
      | _ => rfl
    | _ => rfl

theorem getX_ids {s : AX} {a : AVal} {cs : List CVal} {bs : List (Bool × Nat)} (hb : boxy a = false) (e : s.get h a = some (cs, bs)) : ∀ id ∈ cs.flatMap idsC, id ∈ idsV a := by
  unfold AX.get at e
  split at e
  · cases e; intro id hid; simp only [List.flatMap_cons, List.flatMap_nil, List.append_nil] at hid; exact hid
  · obtain ⟨_, e⟩ := cond_some e
    cases e; exact fun id hid => hid
  · exact absurd hb (by simp [boxy])
  · rename_i f caps g ids
    obtain ⟨_, e⟩ := cond_some e
    cases ids with
    | nil => cases caps with
      | nil => cases e; intro id hid; simp at hid
      | cons _ _ => cases e
    | cons _ _ => exact absurd hb (by simp [boxy])
  · cases e

theorem getAllX_h : ∀ {l : List AX} {as : List AVal}, as.any boxy = false → getAllX h l as = getAllX h' l as
  | [], [], _ => rfl
  | [], _ :: _, _ => rfl
  | _ :: _, [], _ => rfl
  | s :: l, a :: as, hb => by
    simp only [List.any_cons, Bool.or_eq_false_iff] at hb
    unfold getAllX
    rw [getX_h (h := h) (h' := h') hb.1, getAllX_h hb.2]

theorem getAllX_ids : ∀ {l : List AX} {as : List AVal} {cs : List CVal} {bs : List (Bool × Nat)}, as.any boxy = false → getAllX h l as = some (cs, bs) → ∀ id ∈ cs.flatMap idsC, id ∈ as.flatMap idsV
  | [], [], cs, bs, _, e => by cases e; intro id hid; simp at hid
  | [], _ :: _, _, _, _, e => by cases e
  | _ :: _, [], _, _, _, e => by cases e
  | s :: l, a :: as, cs, bs, hb, e => by
    simp only [List.any_cons, Bool.or_eq_false_iff] at hb
    unfold getAllX at e
    split at e
    · rename_i c1 b1 c2 b2 e1 e2
      cases e
      intro id hid
      rw [List.flatMap_append, List.mem_append] at hid
      rw [List.flatMap_cons, List.mem_append]
      rcases hid with hid | hid
      · exact .inl (getX_ids hb.1 e1 id hid)
      · exact .inr (getAllX_ids hb.2 e2 id hid)
    · cases e

theorem frzX_h {s : AX} {a : AVal} (hh : ∀ id ∈ idsV a, h id = h' id) : frzX h s a = frzX h' s a := by
  unfold frzX
  split
  · rename_i p x
    have := frzW_h (h := h) (h' := h') (l := [p.isKept]) (cs := [x]) (by rw [one_ids]; exact hh)
    simp only [this]
  · rename_i l xs
    have := frzW_h (h := h) (h' := h') (l := l.map PC.isKept) (cs := xs) hh
    simp only [this]
  · rfl

theorem frzX_ids {s : AX} {a a' : AVal} {u : Upd} (e : frzX h s a = some (a', u)) : (∀ id ∈ idsV a', id ∈ idsV a) ∧ (boxy a = false → boxy a' = false) := by
  unfold frzX at e
  split at e
  · rename_i p x
    split at e
    · rename_i y u1 e1
      cases e
      refine ⟨fun id hid => by have := frzW_ids e1 id (by rw [one_ids]; exact hid); rwa [one_ids] at this, fun hb => ?_⟩
      cases hk : p.isKept with
      | false => rw [hk] at e1; cases e1; exact hb
      | true =>
        rw [hk] at e1
        unfold frzW at e1
        split at e1
        · rename_i c1 u2 cs1 us1 e2 e3
          cases e3
          cases e1
          cases hy : boxy (.c y) with
          | false => rfl
          | true => rw [(frzC_ids e2).2 hy] at hb; cases hb
        · cases e1
    · cases e
  · rename_i l xs
    split at e
    · rename_i ys u1 e1
      cases e
      exact ⟨frzW_ids e1, fun _ => rfl⟩
    · cases e
  · cases e; exact ⟨fun _ h => h, fun h => h⟩

theorem frzAX_h : ∀ {l : List AX} {as : List AVal}, (∀ id ∈ as.flatMap idsV, h id = h' id) → frzAX h l as = frzAX h' l as
  | [], as, _ => by cases as <;> rfl
  | _ :: _, [], _ => rfl
  | s :: l, a :: as, hh => by
    simp only [List.flatMap_cons, List.mem_append] at hh
    unfold frzAX
    rw [frzX_h fun id hi => hh id (.inl hi), frzAX_h fun id hi => hh id (.inr hi)]

theorem frzAX_ids : ∀ {l : List AX} {as as' : List AVal} {u : Upd}, frzAX h l as = some (as', u) → (∀ id ∈ as'.flatMap idsV, id ∈ as.flatMap idsV) ∧ (as.any boxy = false → as'.any boxy = false)
  | [], as, as', u, e => by cases as <;> cases e <;> exact ⟨fun _ h => h, fun h => h⟩
  | s :: l, [], as', u, e => by cases e; exact ⟨fun _ h => h, fun h => h⟩
  | s :: l, a :: as, as', u, e => by
    unfold frzAX at e
    split at e
    · rename_i a1 u1 as1 us1 e1 e2
      cases e
      obtain ⟨k1, k2⟩ := frzX_ids e1
      obtain ⟨k3, k4⟩ := frzAX_ids e2
      refine ⟨fun id hid => ?_, fun hb => ?_⟩
      · rw [List.flatMap_cons, List.mem_append] at hid ⊢
        exact hid.imp (k1 id) (k3 id)
      · simp only [List.any_cons, Bool.or_eq_false_iff] at hb ⊢
        exact ⟨k2 hb.1, k4 hb.2⟩
    · cases e
end

theorem entryX_local {as : List AX} {rs : RS} {os : List (List RC)} {X : Type} {S : Nat → XD as → Option X} {pack : X → RL (rs.cells ++ os.flatten)} : EntryLocal fun k nm args h => entryX as rs os (S k) pack nm args h := by
  intro k nm args h h' h1 h2
  cases hb : args.any boxy with
  | true => rw [h2 hb]
  | false =>
    have hh := h1 hb
    show entryX as rs os (S k) pack nm args h = entryX as rs os (S k) pack nm args h'
    unfold entryX
    rw [frzAX_h (h := h) (h' := h') fun id hid => hh id (.inl hid)]
    cases e : frzAX h' as args with
    | none => rfl
    | some p =>
      obtain ⟨args', u⟩ := p
      obtain ⟨k1, k2⟩ := frzAX_ids e
      dsimp only
      rw [getAllX_h (h := happly h u) (h' := happly h' u) (k2 hb)]
      cases e2 : getAllX (happly h' u) as args' with
      | none => rfl
      | some q =>
        obtain ⟨cs, bs⟩ := q
        dsimp only
        rw [inXL_h (h := happly h u) (h' := happly h' u) fun id hid => happly_at (hh id (.inl (k1 id (getAllX_ids (k2 hb) e2 id hid))))]
        cases inXL (happly h' u) (as.flatMap AX.cells) cs with
        | none => rfl
        | some d =>
          dsimp only
          cases hle : Nat.ble (rs.cells ++ os.flatten).length 100 with
          | false => simp
          | true =>
            have hle := Nat.le_of_ble_eq_true hle
            rw [freeN_h (h := h) (h' := h') fun i hi => hh _ (.inr (by
              simp only [inOwn, Bool.and_eq_true]
              exact ⟨Nat.ble_eq_true_of_le (by omega), by simp [Nat.blt_eq]; omega⟩))]
end Go.Ab
